/- The pure side of FnExactLettersNeeded: program and reference agree at every argument. No condition beside what an argument is. -/
import Derived.Test.YtchdgmamkafcnaaPFnExactLettersNeededx12
import Derived.Test.YtchdgmamkafcnaaPBase
import Derived.Test.YtchdgmamkafcnaaHNeeded
import Derived.Test.YtchdgmamkafcnaaHBits
namespace Go.Proofs.Ytchdgmamkafcnaa.Pure
open Go.RowKit Go.Proofs.Ytchdgmamkafcnaa.PFnExactLettersNeeded Go.Proofs.YtchdgmamkafcnaaW.PrintWords Go.Proofs.YtchdgmamkafcnaaW.PrintLast Go.Proofs.YtchdgmamkafcnaaW.PrintMore Go.Proofs.Ytchdgmamkafcnaa.PB
set_option linter.unusedSimpArgs false
set_option linter.unusedVariables false
/-! letters: read, compared, marked -/
def toLetters (l : List S61) : List S59 := l.map fun c => ⟨c.f0, c.f1⟩
theorem toLetters_length (l : List S61) : (toLetters l).length = l.length := by simp [toLetters]

theorem szLetterS_small (l : List S61) (h : l.length ≤ 1048576) : laws_szLetterS.f l 1048576 = some (1048576 - (l.length : Int)) := by
  unfold laws_szLetterS.f
  rw [w64 (by omega) (by omega), if_neg (by omega)]
theorem szLetterS_great (l : List S61) (h : ¬ l.length ≤ 1048576) (h2 : l.length ≤ 9223372036854775807) : laws_szLetterS.f l 1048576 = some (-1) := by
  unfold laws_szLetterS.f
  rw [w64 (by omega) (by omega), if_pos (by omega)]

theorem toLetterS_l0 (l : List S61) (h : l.length ≤ 1048576) : ∀ (d : Nat) (i : Int) (acc : List S59), 0 ≤ i → i + d = l.length → acc.length = l.length →
    (∀ j : Nat, (j : Int) < i → acc.getD j z59 = (toLetters l).getD j z59) → Ev (fun k => laws_toLetterS.l0 k l acc i) (toLetters l) := by
  intro d
  induction d with
  | zero =>
    intro i acc h0 hi hl hacc
    refine ev_step (f := fun _ => some acc) (fun k => ?_) ?_
    · simp only [laws_toLetterS.l0]; rw [if_neg (by omega)]
    · have : acc = toLetters l := ext_getD z59 (by rw [hl, toLetters_length]) (fun j hj => hacc j (by omega))
      rw [this]; exact ev_now _
  | succ d ih =>
    intro i acc h0 hi hl hacc
    refine ev_step (f := fun k => laws_toLetterS.l0 k l (acc.set i.toNat ⟨(l.getD i.toNat z61).f0, (l.getD i.toNat z61).f1⟩) (i + 1)) (fun k => ?_) ?_
    · simp only [laws_toLetterS.l0, laws_toLetter.f, rd_T61, Option.bind_some]
      rw [if_pos (by omega), if_pos h0, if_pos (by omega), w64 (by omega) (by omega)]
    · refine ih (i + 1) _ (by omega) (by omega) (by simpa using hl) (fun j hj => ?_)
      rw [getD_set _ _ _ _ _ (by omega)]
      split
      · rename_i e
        subst e
        rw [toLetters, getD_map (fun c : S61 => (⟨c.f0, c.f1⟩ : S59)) l i.toNat z61 z59 (by omega)]
      · exact hacc j (by omega)
theorem toLetterS_ev (l : List S61) (h : l.length ≤ 1048576) : Ev (fun k => laws_toLetterS.f k l) (toLetters l) := by
  unfold laws_toLetterS.f
  have h1 : (0 : Int) ≤ (l.length : Int) := by omega
  have h2 : ((l.length : Int)).toNat ≤ 17592186044416 := by omega
  simp only [if_pos h1, if_pos h2]
  exact toLetterS_l0 l h l.length 0 _ (by omega) (by omega) (by simp) (fun j hj => by omega)

theorem eqLetterS_l0 (a : List S59) (h : a.length ≤ 1048576) : ∀ (d : Nat) (i : Int), 0 ≤ i → i + d = a.length → Ev (fun k => laws_eqLetterS.l0 k a a i) true := by
  intro d
  induction d with
  | zero =>
    intro i h0 hi
    refine ev_step (f := fun _ => some true) (fun k => ?_) (ev_now _)
    simp only [laws_eqLetterS.l0]; rw [if_neg (by omega)]
  | succ d ih =>
    intro i h0 hi
    refine ev_step (f := fun k => laws_eqLetterS.l0 k a a (i + 1)) (fun k => ?_) (ih _ (by omega) (by omega))
    simp only [laws_eqLetterS.l0, laws_eqLetter.f, if_true, Option.bind_some]
    rw [if_pos (by omega), if_pos h0, if_pos (by omega), w64 (by omega) (by omega)]
theorem eqLetterS_ev (a : List S59) (h : a.length ≤ 1048576) : Ev (fun k => laws_eqLetterS.f k a a) true := by
  unfold laws_eqLetterS.f
  simp only [if_true]
  exact eqLetterS_l0 a h a.length 0 (by omega) (by omega)

/-! spec.leGood -/
theorem caFriends_f (n : Int) : spec_caFriends.f n = some (decide (1 ≤ n) && decide (n ≤ 10)) := by
  unfold spec_caFriends.f spec_l1In.f
  by_cases h1 : 1 ≤ n <;> by_cases h2 : n ≤ 10 <;> simp [h1, h2]
theorem leLetter_f (n a b : Int) (h1 : 1 ≤ n) (h2 : n ≤ 10) : spec_leLetter.f n a b = some (isLetterB n a b) := by
  unfold spec_leLetter.f spec_l1In.f isLetterB
  rw [w64 (by omega) (by omega)]
  have e : ∀ x : Int, decide (x ≤ n - 1) = decide (x < n) := fun x => by rw [decide_eq_decide]; omega
  by_cases g1 : 0 ≤ a
  · by_cases g2 : a < n
    · have g2' : a ≤ n - 1 := by omega
      by_cases g3 : 0 ≤ b
      · by_cases g4 : b < n
        · have g4' : b ≤ n - 1 := by omega
          simp [g1, g2, g2', g3, g4, g4', bne]
        · have g4' : ¬ b ≤ n - 1 := by omega
          simp [g1, g2, g2', g3, g4, g4']
      · simp [g1, g2, g2', g3]
    · have g2' : ¬ a ≤ n - 1 := by omega
      simp [g1, g2, g2']
  · simp [g1]
theorem leGood_l0 (n : Int) (l : List S59) (h : l.length ≤ 1048576) (h1 : 1 ≤ n) (h2 : n ≤ 10) : ∀ (d : Nat) (i : Int), 0 ≤ i → i + d = l.length →
    Ev (fun k => spec_leGood.l0 k n l (l.length : Int) i) ((l.drop i.toNat).all fun c => isLetterB n c.f0 c.f1) := by
  intro d
  induction d with
  | zero =>
    intro i h0 hi
    refine ev_step (f := fun _ => some true) (fun k => ?_) ?_
    · simp only [spec_leGood.l0]; rw [if_neg (by omega)]
    · rw [List.drop_eq_nil_of_le (by omega)]; exact ev_now _
  | succ d ih =>
    intro i h0 hi
    have hd := drop_at l i.toNat z59 (by omega)
    cases hq : isLetterB n (l.getD i.toNat z59).f0 (l.getD i.toNat z59).f1 with
    | true =>
      refine ev_step (f := fun k => spec_leGood.l0 k n l (l.length : Int) (i + 1)) (fun k => ?_) ?_
      · simp only [spec_leGood.l0, rd_T59, leLetter_f n _ _ h1 h2, Option.bind_some, hq, if_true]
        rw [if_pos (by omega), if_pos h0, if_pos (by omega), w64 (by omega) (by omega)]
      · have := ih (i + 1) (by omega) (by omega)
        rw [hd, List.all_cons, hq, Bool.true_and]
        rwa [show (i + 1).toNat = i.toNat + 1 by omega] at this
    | false =>
      refine ev_step (f := fun _ => some false) (fun k => ?_) ?_
      · simp only [spec_leGood.l0, rd_T59, leLetter_f n _ _ h1 h2, Option.bind_some, hq]
        rw [if_pos (by omega), if_pos h0, if_pos (by omega), if_neg (by simp)]
      · rw [hd, List.all_cons, hq, Bool.false_and]; exact ev_now _
theorem leGood_ev (n : Int) (l : List S59) (h : l.length ≤ 1048576) : Ev (fun k => spec_leGood.f k n l) (areLettersB n l) := by
  unfold spec_leGood.f
  simp only [caFriends_f, Option.bind_some]
  by_cases h1 : 1 ≤ n ∧ n ≤ 10
  · obtain ⟨h1, h2⟩ := h1
    by_cases h3 : l.length ≤ 60
    · have e : areLettersB n l = l.all fun c => isLetterB n c.f0 c.f1 := by simp [areLettersB, h1, h2, h3]
      rw [e]
      have e2 : decide ((l.length : Int) > 60) = false := by rw [decide_eq_false_iff_not]; omega
      simp only [h1, h2, decide_true, Bool.and_self, if_true, e2]
      refine ev_step (f := fun k => spec_leGood.l0 k n l (l.length : Int) 0) (fun k => by simp [spec_leGood.j0]) ?_
      simpa using leGood_l0 n l h h1 h2 l.length 0 (by omega) (by omega)
    · have e : areLettersB n l = false := by simp [areLettersB, h3]
      rw [e]
      have e2 : decide ((l.length : Int) > 60) = true := by rw [decide_eq_true_eq]; omega
      simp only [h1, h2, decide_true, Bool.and_self, if_true, e2]
      exact ev_step (f := fun _ => some false) (fun k => by simp [spec_leGood.j0]) (ev_now _)
  · have e : areLettersB n l = false := by rw [Bool.eq_false_iff]; intro hh; simp [areLettersB] at hh; exact h1 ⟨hh.1, hh.2.1⟩
    have e1 : (decide (1 ≤ n) && decide (n ≤ 10)) = false := by rw [Bool.eq_false_iff]; simpa using h1
    rw [e]
    simp only [e1]
    exact ev_step (f := fun _ => some false) (fun k => by simp [spec_leGood.j0]) (ev_now _)
theorem areLettersB_true {n : Int} {cs : List S59} (h : areLettersB n cs = true) : 1 ≤ n ∧ n ≤ 10 ∧ cs.length ≤ 60 ∧ ∀ c ∈ cs, isLetterB n c.f0 c.f1 = true := by
  simp [areLettersB] at h
  exact h

/-! news: what friends know, as numbers below 2^n -/
def orI (a b : Int) : Int := ((a.toNat ||| b.toNat : Nat) : Int)
def startP (n : Nat) : List Int := (List.range n).map fun i => ((2 ^ i : Nat) : Int)
def SmallP (n : Nat) (l : List Int) : Prop := l.length = n ∧ ∀ x ∈ l, 0 ≤ x ∧ x < ((2 ^ n : Nat) : Int)
theorem smallP_at {n : Nat} {l : List Int} (h : SmallP n l) (i : Nat) (hi : i < n) : 0 ≤ l.getD i 0 ∧ l.getD i 0 < ((2 ^ n : Nat) : Int) := by
  have hl : i < l.length := by rw [h.1]; exact hi
  rw [getD_at l i 0 hl]
  exact h.2 _ (List.getElem_mem hl)
theorem smallP_1024 {n : Nat} {l : List Int} (h : SmallP n l) (hn : n ≤ 10) (i : Nat) (hi : i < n) : 0 ≤ l.getD i 0 ∧ l.getD i 0 < 1024 := by
  have h1 := smallP_at h i hi
  have h2 : 2 ^ n ≤ 2 ^ 10 := Nat.pow_le_pow_right (by omega) hn
  omega
theorem smallP_start (n : Nat) : SmallP n (startP n) := by
  refine ⟨by simp [startP], fun x hx => ?_⟩
  obtain ⟨i, hi, rfl⟩ := List.mem_map.1 hx
  have : i < n := by simpa using hi
  have h2 : 2 ^ i < 2 ^ n := Nat.pow_lt_pow_right (by omega) this
  have h3 : 0 < 2 ^ i := Nat.two_pow_pos i
  omega
theorem orI_lt {n : Nat} {a b : Int} (ha : 0 ≤ a ∧ a < ((2 ^ n : Nat) : Int)) (hb : 0 ≤ b ∧ b < ((2 ^ n : Nat) : Int)) : 0 ≤ orI a b ∧ orI a b < ((2 ^ n : Nat) : Int) := by
  have h := Nat.or_lt_two_pow (x := a.toNat) (y := b.toNat) (n := n) (by omega) (by omega)
  unfold orI
  omega
theorem smallP_set {n : Nat} {l : List Int} (h : SmallP n l) (i : Nat) (x : Int) (hx : 0 ≤ x ∧ x < ((2 ^ n : Nat) : Int)) : SmallP n (l.set i x) := by
  refine ⟨by rw [List.length_set, h.1], fun y hy => ?_⟩
  rcases List.mem_or_eq_of_mem_set hy with h1 | h1
  · exact h.2 y h1
  · rw [h1]; exact hx
theorem or_i64 {a b : Int} (ha : 0 ≤ a ∧ a < 1024) (hb : 0 ≤ b ∧ b < 1024) : Go.bits .or .i64 a b = orI a b := by
  have h := (bits_nat .i64 10 (by decide) (fun n h0 h1 => by rw [IntKind.wrap_i64]; omega) a.toNat b.toNat (by omega) (by omega)).2
  rw [show ((a.toNat : Nat) : Int) = a by omega, show ((b.toNat : Nat) : Int) = b by omega] at h
  exact h
theorem or_u16 {a b : Int} (ha : 0 ≤ a ∧ a < 1024) (hb : 0 ≤ b ∧ b < 1024) : Go.bits .or .u16 a b = orI a b := by
  have h := (bits_nat .u16 10 (by decide) (fun n h0 h1 => by simp [IntKind.wrap, IntKind.bits, IntKind.signed]; omega) a.toNat b.toNat (by omega) (by omega)).2
  rw [show ((a.toNat : Nat) : Int) = a by omega, show ((b.toNat : Nat) : Int) = b by omega] at h
  exact h
theorem shl_i64_all : ∀ i : Fin 11, shl .i64 1 (i.val : Int) = ((2 ^ i.val : Nat) : Int) := by decide +kernel
theorem shl_u16_all : ∀ i : Fin 11, shl .u16 1 (i.val : Int) = ((2 ^ i.val : Nat) : Int) := by decide +kernel
theorem shl_i64_at (i : Int) (h0 : 0 ≤ i) (h1 : i ≤ 10) : shl .i64 1 i = ((2 ^ i.toNat : Nat) : Int) := by
  have := shl_i64_all ⟨i.toNat, by omega⟩
  simp only [Int.toNat_of_nonneg h0] at this
  exact this
theorem shl_u16_at (i : Int) (h0 : 0 ≤ i) (h1 : i ≤ 10) : shl .u16 1 i = ((2 ^ i.toNat : Nat) : Int) := by
  have := shl_u16_all ⟨i.toNat, by omega⟩
  simp only [Int.toNat_of_nonneg h0] at this
  exact this
theorem startP_take (n i : Nat) (h : i < n) : (startP n).take (i + 1) = (startP n).take i ++ [((2 ^ i : Nat) : Int)] := by
  rw [take_at (startP n) i 0 (by simpa [startP] using h), startP, getD_range_map _ _ _ _ h]
theorem caStart_l0 (n : Nat) (hn : n ≤ 10) : ∀ (d : Nat) (i : Int), 0 ≤ i → i + d = n → Ev (fun k => spec_caStart.l0 k (n : Int) ((startP n).take i.toNat) i) (startP n) := by
  intro d
  have hl : (startP n).length = n := by simp [startP]
  induction d with
  | zero =>
    intro i h0 hi
    refine ev_step (f := fun _ => some ((startP n).take i.toNat)) (fun k => ?_) ?_
    · simp only [spec_caStart.l0]; rw [if_neg (by omega)]
    · rw [List.take_of_length_le (by omega)]; exact ev_now _
  | succ d ih =>
    intro i h0 hi
    refine ev_step (f := fun k => spec_caStart.l0 k (n : Int) ((startP n).take (i + 1).toNat) (i + 1)) (fun k => ?_) (ih _ (by omega) (by omega))
    simp only [spec_caStart.l0]
    rw [if_pos (by omega), if_pos h0, if_pos (by rw [List.length_take]; omega), w64 (by omega) (by omega), shl_i64_at i h0 (by omega), ← startP_take n i.toNat (by omega), show (i + 1).toNat = i.toNat + 1 by omega]
theorem caStart_ev (n : Int) (h1 : 1 ≤ n) (h2 : n ≤ 10) : Ev (fun k => spec_caStart.f k n) (startP n.toNat) := by
  have := caStart_l0 n.toNat (by omega) n.toNat 0 (by omega) (by omega)
  unfold spec_caStart.f
  simpa [show ((n.toNat : Nat) : Int) = n by omega] using this
theorem first_l0 (n : Nat) (hn : n ≤ 10) : ∀ (d : Nat) (i : Int), 0 ≤ i → i + d = n → Ev (fun k => impl_first.l0 k ((startP n).take i.toNat) (n : Int) i) (startP n) := by
  intro d
  have hl : (startP n).length = n := by simp [startP]
  induction d with
  | zero =>
    intro i h0 hi
    refine ev_step (f := fun _ => some ((startP n).take i.toNat)) (fun k => ?_) ?_
    · simp only [impl_first.l0]; rw [if_neg (by omega)]
    · rw [List.take_of_length_le (by omega)]; exact ev_now _
  | succ d ih =>
    intro i h0 hi
    refine ev_step (f := fun k => impl_first.l0 k ((startP n).take (i + 1).toNat) (n : Int) (i + 1)) (fun k => ?_) (ih _ (by omega) (by omega))
    simp only [impl_first.l0]
    rw [if_pos (by omega), if_pos h0, if_pos (by rw [List.length_take]; omega), w64 (by omega) (by omega), shl_u16_at i h0 (by omega), ← startP_take n i.toNat (by omega), show (i + 1).toNat = i.toNat + 1 by omega]
theorem first_ev (n : Int) (h1 : 1 ≤ n) (h2 : n ≤ 10) : Ev (fun k => impl_first.f k n) (startP n.toNat) := by
  have := first_l0 n.toNat (by omega) n.toNat 0 (by omega) (by omega)
  unfold impl_first.f
  simpa [show ((n.toNat : Nat) : Int) = n by omega] using this

/-! news behind letters -/
def tellP (l : List Int) (c : S59) : List Int := l.set c.f1.toNat (orI (l.getD c.f1.toNat 0) (l.getD c.f0.toNat 0))
def playL (n : Nat) (cs : List S59) : List Int := cs.foldl tellP (startP n)
theorem isLetterB_true {n a b : Int} (h : isLetterB n a b = true) : 0 ≤ a ∧ a < n ∧ 0 ≤ b ∧ b < n := by
  simp [isLetterB] at h
  omega
theorem smallP_tell {n : Nat} {l : List Int} (h : SmallP n l) (c : S59) (hc : isLetterB n c.f0 c.f1 = true) : SmallP n (tellP l c) := by
  obtain ⟨h1, h2, h3, h4⟩ := isLetterB_true hc
  exact smallP_set h _ _ (orI_lt (smallP_at h c.f1.toNat (by omega)) (smallP_at h c.f0.toNat (by omega)))
theorem smallP_foldL {n : Nat} : ∀ (cs : List S59) (l : List Int), SmallP n l → (∀ c ∈ cs, isLetterB n c.f0 c.f1 = true) → SmallP n (cs.foldl tellP l)
  | [], _, h, _ => h
  | c :: cs, _, h, hc => smallP_foldL cs _ (smallP_tell h c (hc c (List.mem_cons_self))) (fun d hd => hc d (List.mem_cons_of_mem _ hd))
theorem smallP_playL {n : Nat} (cs : List S59) (hc : ∀ c ∈ cs, isLetterB n c.f0 c.f1 = true) : SmallP n (playL n cs) := smallP_foldL cs _ (smallP_start n) hc
theorem lePlay_l0 {n : Nat} (hn : n ≤ 10) (cs : List S59) (h : cs.length ≤ 1048576) (hc : ∀ c ∈ cs, isLetterB n c.f0 c.f1 = true) : ∀ (d : Nat) (i : Int) (l : List Int), 0 ≤ i → i + d = cs.length → SmallP n l →
    Ev (fun k => spec_lePlay.l0 k l cs (cs.length : Int) i) ((cs.drop i.toNat).foldl tellP l) := by
  intro d
  induction d with
  | zero =>
    intro i l h0 hi hs
    refine ev_step (f := fun _ => some l) (fun k => ?_) ?_
    · simp only [spec_lePlay.l0]; rw [if_neg (by omega)]
    · rw [List.drop_eq_nil_of_le (by omega)]; exact ev_now _
  | succ d ih =>
    intro i l h0 hi hs
    have hl := hs.1
    have hlt : i.toNat < cs.length := by omega
    have hd := drop_at cs i.toNat z59 hlt
    have hm : isLetterB n (cs.getD i.toNat z59).f0 (cs.getD i.toNat z59).f1 = true := hc _ (by rw [getD_at _ _ _ hlt]; exact List.getElem_mem hlt)
    obtain ⟨b1, b2, b3, b4⟩ := isLetterB_true hm
    refine ev_step (f := fun k => spec_lePlay.l0 k (tellP l (cs.getD i.toNat z59)) cs (cs.length : Int) (i + 1)) (fun k => ?_) ?_
    · simp only [spec_lePlay.l0, show rd_T59 cs i = cs.getD i.toNat z59 from rfl]
      rw [if_pos (by omega), if_pos h0, if_pos (by omega), if_pos b3, if_pos (by omega), if_pos b1, if_pos (by omega), w64 (by omega) (by omega)]
      rw [or_i64 (show 0 ≤ rd l (cs.getD i.toNat z59).f1 ∧ rd l (cs.getD i.toNat z59).f1 < 1024 from smallP_1024 hs hn _ (by omega)) (show 0 ≤ rd l (cs.getD i.toNat z59).f0 ∧ rd l (cs.getD i.toNat z59).f0 < 1024 from smallP_1024 hs hn _ (by omega))]
      rfl
    · rw [hd, List.foldl_cons]
      have := ih (i + 1) _ (by omega) (by omega) (smallP_tell hs _ hm)
      rwa [show (i + 1).toNat = i.toNat + 1 by omega] at this
theorem lePlay_ev {n : Int} (cs : List S59) (h1 : 1 ≤ n) (h2 : n ≤ 10) (h : cs.length ≤ 1048576) (hc : ∀ c ∈ cs, isLetterB n c.f0 c.f1 = true) : Ev (fun k => spec_lePlay.f k n cs) (playL n.toNat cs) := by
  unfold spec_lePlay.f
  refine Ev.bind (caStart_ev n h1 h2) ?_
  have e : ((n.toNat : Nat) : Int) = n := by omega
  have := lePlay_l0 (n := n.toNat) (by omega) cs h (fun c hm => by rw [e]; exact hc c hm) cs.length 0 _ (by omega) (by omega) (smallP_start n.toNat)
  simpa [playL] using this
theorem byLetters_l0 {n : Nat} (hn : n ≤ 10) (cs : List S59) (h : cs.length ≤ 1048576) (hc : ∀ c ∈ cs, isLetterB n c.f0 c.f1 = true) : ∀ (d : Nat) (i : Int) (l : List Int), 0 ≤ i → i + d = cs.length → SmallP n l →
    Ev (fun k => impl_byLetters.l0 k l cs (cs.length : Int) i) ((cs.drop i.toNat).foldl tellP l) := by
  intro d
  induction d with
  | zero =>
    intro i l h0 hi hs
    refine ev_step (f := fun _ => some l) (fun k => ?_) ?_
    · simp only [impl_byLetters.l0]; rw [if_neg (by omega)]
    · rw [List.drop_eq_nil_of_le (by omega)]; exact ev_now _
  | succ d ih =>
    intro i l h0 hi hs
    have hl := hs.1
    have hlt : i.toNat < cs.length := by omega
    have hd := drop_at cs i.toNat z59 hlt
    have hm : isLetterB n (cs.getD i.toNat z59).f0 (cs.getD i.toNat z59).f1 = true := hc _ (by rw [getD_at _ _ _ hlt]; exact List.getElem_mem hlt)
    obtain ⟨b1, b2, b3, b4⟩ := isLetterB_true hm
    refine ev_step (f := fun k => impl_byLetters.l0 k (tellP l (cs.getD i.toNat z59)) cs (cs.length : Int) (i + 1)) (fun k => ?_) ?_
    · simp only [impl_byLetters.l0, show rd_T59 cs i = cs.getD i.toNat z59 from rfl]
      rw [if_pos (by omega), if_pos h0, if_pos (by omega), if_pos b3, if_pos (by omega), if_pos b1, if_pos (by omega), w64 (by omega) (by omega)]
      rw [or_u16 (show 0 ≤ rd l (cs.getD i.toNat z59).f1 ∧ rd l (cs.getD i.toNat z59).f1 < 1024 from smallP_1024 hs hn _ (by omega)) (show 0 ≤ rd l (cs.getD i.toNat z59).f0 ∧ rd l (cs.getD i.toNat z59).f0 < 1024 from smallP_1024 hs hn _ (by omega))]
      rfl
    · rw [hd, List.foldl_cons]
      have := ih (i + 1) _ (by omega) (by omega) (smallP_tell hs _ hm)
      rwa [show (i + 1).toNat = i.toNat + 1 by omega] at this
theorem byLetters_ev {n : Int} (cs : List S59) (h1 : 1 ≤ n) (h2 : n ≤ 10) (h : cs.length ≤ 1048576) (hc : ∀ c ∈ cs, isLetterB n c.f0 c.f1 = true) : Ev (fun k => impl_byLetters.f k n cs) (playL n.toNat cs) := by
  unfold impl_byLetters.f
  refine Ev.bind (first_ev n h1 h2) ?_
  have e : ((n.toNat : Nat) : Int) = n := by omega
  have := byLetters_l0 (n := n.toNat) (by omega) cs h (fun c hm => by rw [e]; exact hc c hm) cs.length 0 _ (by omega) (by omega) (smallP_start n.toNat)
  simpa [playL] using this
theorem smallP_ofL {n : Int} {cs : List S59} (h1 : 1 ≤ n) (h4 : ∀ c ∈ cs, isLetterB n c.f0 c.f1 = true) : SmallP n.toNat (playL n.toNat cs) := smallP_playL cs (fun c hc => by rw [show ((n.toNat : Nat) : Int) = n by omega]; exact h4 c hc)

/-! all know -/
theorem pop_all : ∀ n : Fin 11, ∀ x : Fin 1024, x.val < 2 ^ n.val → (Go.Proofs.Ytchdgmamkafcnaa.H.pop16 x.val ≤ n.val ∧ (Go.Proofs.Ytchdgmamkafcnaa.H.pop16 x.val = n.val ↔ x.val = 2 ^ n.val - 1)) := by decide +kernel
def popI (x : Int) : Nat := Go.Proofs.Ytchdgmamkafcnaa.H.pop16 x.toNat
theorem popI_le {n : Nat} (hn : n ≤ 10) {x : Int} (hx : 0 ≤ x ∧ x < ((2 ^ n : Nat) : Int)) : popI x ≤ n ∧ (popI x = n ↔ x = ((2 ^ n - 1 : Nat) : Int)) := by
  have h2 : 2 ^ n ≤ 2 ^ 10 := Nat.pow_le_pow_right (by omega) hn
  have h := pop_all ⟨n, by omega⟩ ⟨x.toNat, by omega⟩ (by show x.toNat < 2 ^ n; omega)
  have h' : Go.Proofs.Ytchdgmamkafcnaa.H.pop16 x.toNat ≤ n ∧ (Go.Proofs.Ytchdgmamkafcnaa.H.pop16 x.toNat = n ↔ x.toNat = 2 ^ n - 1) := h
  refine ⟨h'.1, h'.2.trans ⟨fun e => by omega, fun e => by omega⟩⟩
def sumP (l : List Int) : Nat := (l.map popI).sum
theorem sumP_le (n : Nat) : ∀ (l : List Int), (∀ x ∈ l, popI x ≤ n) → sumP l ≤ n * l.length ∧ (sumP l = n * l.length ↔ ∀ x ∈ l, popI x = n)
  | [], _ => by simp [sumP]
  | x :: l, h => by
    have ih := sumP_le n l (fun y hy => h y (List.mem_cons_of_mem _ hy))
    have hx := h x (List.mem_cons_self)
    have e : sumP (x :: l) = popI x + sumP l := by simp [sumP]
    rw [e, List.length_cons, Nat.mul_succ]
    refine ⟨by omega, ⟨fun hh => ?_, fun hh => ?_⟩⟩
    · intro y hy
      rcases List.mem_cons.1 hy with rfl | hy
      · omega
      · exact (ih.2.1 (by omega)) y hy
    · have h1 := hh x (List.mem_cons_self)
      have h2 := ih.2.2 (fun y hy => hh y (List.mem_cons_of_mem _ hy))
      omega
def allP (n : Nat) (l : List Int) : Bool := l.all fun x => x == ((2 ^ n - 1 : Nat) : Int)
theorem allP_sum {n : Nat} (hn : n ≤ 10) {l : List Int} (h : SmallP n l) : (((sumP l : Nat) : Int) == (n : Int) * (n : Int)) = allP n l := by
  have hp := fun x hx => popI_le hn (h.2 x hx)
  have hs := sumP_le n l (fun x hx => (hp x hx).1)
  rw [h.1] at hs
  rw [Bool.eq_iff_iff, beq_iff_eq, allP, List.all_eq_true]
  constructor
  · intro e x hx
    rw [beq_iff_eq]
    exact (hp x hx).2.1 (hs.2.1 (by exact_mod_cast e) x hx)
  · intro e
    have := hs.2.2 (fun x hx => (hp x hx).2.2 (by simpa using e x hx))
    exact_mod_cast this
theorem onesCount_f {x : Int} (hx : 0 ≤ x ∧ x < 1024) : bits_OnesCount16.f x = some ((popI x : Nat) : Int) := by
  unfold bits_OnesCount16.f
  rw [if_pos hx.1, if_pos (by omega)]
  rfl
theorem popI_le16 (x : Int) : popI x ≤ 16 := by
  have := List.countP_le_length (p := fun i => x.toNat.testBit i) (l := List.range 16)
  simpa [popI, Go.Proofs.Ytchdgmamkafcnaa.H.pop16] using this
theorem sumP_le16 (l : List Int) : sumP l ≤ 16 * l.length := (sumP_le 16 l (fun x _ => popI_le16 x)).1
theorem count_l0 {n : Nat} (hn : n ≤ 10) {l : List Int} (h : SmallP n l) : ∀ (d : Nat) (i : Int) (a : Nat), 0 ≤ i → i + d = l.length → a ≤ 16 * i.toNat → Ev (fun k => impl_news_count.l0 k (a : Int) l (l.length : Int) i) ((a + sumP (l.drop i.toNat) : Nat) : Int) := by
  intro d
  have hl := h.1
  induction d with
  | zero =>
    intro i a h0 hi ha
    refine ev_step (f := fun _ => some (a : Int)) (fun k => ?_) ?_
    · simp only [impl_news_count.l0]; rw [if_neg (by omega)]
    · rw [List.drop_eq_nil_of_le (by omega)]; exact ev_now _
  | succ d ih =>
    intro i a h0 hi ha
    have hd := drop_at l i.toNat 0 (by omega)
    have hp := popI_le16 (l.getD i.toNat 0)
    refine ev_step (f := fun k => impl_news_count.l0 k ((a + popI (l.getD i.toNat 0) : Nat) : Int) l (l.length : Int) (i + 1)) (fun k => ?_) ?_
    · simp only [impl_news_count.l0]
      rw [if_pos (by omega), if_pos h0, if_pos (by omega), onesCount_f (show 0 ≤ rd l i ∧ rd l i < 1024 from smallP_1024 h hn i.toNat (by omega))]
      simp only [Option.bind_some]
      rw [w64 (x := i + 1) (by omega) (by omega), show rd l i = l.getD i.toNat 0 from rfl, w64 (by omega) (by omega)]
      rfl
    · have := ih (i + 1) (a + popI (l.getD i.toNat 0)) (by omega) (by omega) (by omega)
      rw [show (i + 1).toNat = i.toNat + 1 by omega] at this
      rw [hd]
      have e : sumP (l.getD i.toNat 0 :: l.drop (i.toNat + 1)) = popI (l.getD i.toNat 0) + sumP (l.drop (i.toNat + 1)) := by simp [sumP]
      rw [e, ← Nat.add_assoc]
      exact this
theorem count_ev {n : Nat} (hn : n ≤ 10) {l : List Int} (h : SmallP n l) : Ev (fun k => impl_news_count.f k l) ((sumP l : Nat) : Int) := by
  have hl := h.1
  have := count_l0 hn h l.length 0 0 (by omega) (by omega) (by omega)
  unfold impl_news_count.f
  simpa using this

theorem allKnow_ev {n : Nat} (hn : n ≤ 10) {l : List Int} (h : SmallP n l) : Ev (fun k => impl_news_allKnow.f k l) (allP n l) := by
  have hl := h.1
  unfold impl_news_allKnow.f
  refine Ev.bind (count_ev hn h) ?_
  have e : (l.length : Int) * (l.length : Int) = (n : Int) * (n : Int) := by rw [hl]
  have hb : (n : Int) * (n : Int) ≤ 10 * 10 := Int.mul_le_mul (by omega) (by omega) (by omega) (by omega)
  have hb0 : 0 ≤ (n : Int) * (n : Int) := Int.mul_nonneg (by omega) (by omega)
  rw [e, w64 (by omega) (by omega), allP_sum hn h]
  exact ev_now _
theorem caAll_l0 {n : Nat} (hn : n ≤ 10) {l : List Int} (h : SmallP n l) : ∀ (d : Nat) (i : Int), 0 ≤ i → i + d = l.length → Ev (fun k => spec_caAll.l0 k l l (l.length : Int) i) (allP n (l.drop i.toNat)) := by
  intro d
  have hl := h.1
  have hw : wrap64 ((shl .i64 1 (l.length : Int)) - 1) = ((2 ^ n - 1 : Nat) : Int) := by
    have h2 : 2 ^ n ≤ 2 ^ 10 := Nat.pow_le_pow_right (by omega) hn
    have h3 : 0 < 2 ^ n := Nat.two_pow_pos n
    rw [shl_i64_at _ (by omega) (by omega), hl, show ((n : Int)).toNat = n by omega, w64 (by omega) (by omega)]
    omega
  induction d with
  | zero =>
    intro i h0 hi
    refine ev_step (f := fun _ => some true) (fun k => ?_) ?_
    · simp only [spec_caAll.l0]; rw [if_neg (by omega)]
    · rw [List.drop_eq_nil_of_le (by omega)]; exact ev_now _
  | succ d ih =>
    intro i h0 hi
    have hd := drop_at l i.toNat 0 (by omega)
    have ea : allP n (l.drop i.toNat) = ((l.getD i.toNat 0 == ((2 ^ n - 1 : Nat) : Int)) && allP n (l.drop (i.toNat + 1))) := by rw [hd]; rfl
    rw [ea]
    by_cases hq : l.getD i.toNat 0 = ((2 ^ n - 1 : Nat) : Int)
    · refine ev_step (f := fun k => spec_caAll.l0 k l l (l.length : Int) (i + 1)) (fun k => ?_) ?_
      · simp only [spec_caAll.l0, hw, show rd l i = l.getD i.toNat 0 from rfl]
        rw [if_pos (by omega), if_pos h0, if_pos (by omega), if_pos hq, w64 (by omega) (by omega)]
      · have := ih (i + 1) (by omega) (by omega)
        rw [show (i + 1).toNat = i.toNat + 1 by omega] at this
        rw [beq_iff_eq.2 hq, Bool.true_and]
        exact this
    · refine ev_step (f := fun _ => some false) (fun k => ?_) ?_
      · simp only [spec_caAll.l0, hw, show rd l i = l.getD i.toNat 0 from rfl]
        rw [if_pos (by omega), if_pos h0, if_pos (by omega), if_neg hq]
      · rw [beq_eq_false_iff_ne.2 hq, Bool.false_and]; exact ev_now _
theorem caAll_ev {n : Nat} (hn : n ≤ 10) {l : List Int} (h : SmallP n l) : Ev (fun k => spec_caAll.f k l) (allP n l) := by
  have hl := h.1
  have := caAll_l0 hn h l.length 0 (by omega) (by omega)
  unfold spec_caAll.f
  simpa using this

theorem ev_allN {g : Nat → Nat → Option Bool} {p : Nat → Bool} : ∀ (m : Nat), (∀ i, i < m → Ev (fun k => g k i) (p i)) → ∃ K, ∀ k, K ≤ k → ∀ i, i < m → g k i = some (p i)
  | 0, _ => ⟨0, fun _ _ _ h => absurd h (Nat.not_lt_zero _)⟩
  | m + 1, h => by
    obtain ⟨K, hK⟩ := ev_allN m (fun i hi => h i (by omega))
    obtain ⟨K', hK'⟩ := h m (by omega)
    refine ⟨max K K', fun k hk i hi => ?_⟩
    by_cases e : i = m
    · subst e; exact hK' k (by omega)
    · exact hK k (by omega) i (by omega)
theorem ev_neededO {g : Nat → Nat → Option Bool} {p : Nat → Bool} {m : Nat} (hm : m ≤ 1048576) (h : ∀ i, i < m + 1 → Ev (fun k => g k i) (p i)) : Ev (fun k => Go.Proofs.Ytchdgmamkafcnaa.H.neededO (g k) m) (Go.Proofs.Ytchdgmamkafcnaa.H.neededP p (m + 1) 0) := by
  obtain ⟨K, hK⟩ := ev_allN (m + 1) h
  exact ⟨K, fun k hk => Go.Proofs.Ytchdgmamkafcnaa.H.neededO_some hm (hK k hk)⟩


def knowP (n : Int) (cs : List S59) (i : Nat) : Bool := allP n.toNat (playL n.toNat (cs.take i))
def resP (n : Int) (cs : List S59) : Int × Bool := if areLettersB n cs = true then Go.Proofs.Ytchdgmamkafcnaa.H.neededP (knowP n cs) (cs.length + 1) 0 else (0, false)
theorem spec_l0 {n : Int} {cs : List S59} (h1 : 1 ≤ n) (h2 : n ≤ 10) (h3 : cs.length ≤ 60) (h4 : ∀ c ∈ cs, isLetterB n c.f0 c.f1 = true) : ∀ (d : Nat) (i : Nat), i + d = cs.length + 1 →
    Ev (fun k => spec_LettersNeeded.l0 k n cs (i : Int)) (Go.Proofs.Ytchdgmamkafcnaa.H.neededP (knowP n cs) d i) := by
  intro d
  induction d with
  | zero =>
    intro i hi
    refine ev_step (f := fun _ => some (0, false)) (fun k => ?_) (ev_now _)
    simp only [spec_LettersNeeded.l0]; rw [if_neg (by omega)]
  | succ d ih =>
    intro i hi
    have t1 : ∀ c ∈ cs.take i, isLetterB n c.f0 c.f1 = true := fun c hc => h4 c (List.mem_of_mem_take hc)
    have e : wrap64 ((i : Int) + 1) = ((i + 1 : Nat) : Int) := by rw [w64 (by omega) (by omega)]; omega
    have q1 : (0 : Int) ≤ (i : Int) := by omega
    have q2 : (i : Int) ≤ (cs.length : Int) := by omega
    refine Ev.step (fun k => by simp only [spec_LettersNeeded.l0, e, if_pos q1, if_pos q2, Int.toNat_natCast] <;> exact rfl) ?_
    refine Ev.bind (lePlay_ev _ h1 h2 (by rw [List.length_take]; omega) t1) ?_
    refine Ev.bind (caAll_ev (by omega) (smallP_ofL h1 t1)) ?_
    simp only [Go.Proofs.Ytchdgmamkafcnaa.H.neededP]
    cases hq : knowP n cs i with
    | true => rw [show allP n.toNat (playL n.toNat (cs.take i)) = true from hq]; simpa using ev_now _
    | false => rw [show allP n.toNat (playL n.toNat (cs.take i)) = false from hq]; simpa using ih (i + 1) (by omega)
theorem spec_ev (n : Int) (cs : List S59) (h : cs.length ≤ 1048576) : Ev (fun k => spec_LettersNeeded.f k n cs) (resP n cs) := by
  unfold spec_LettersNeeded.f resP
  refine Ev.bind (leGood_ev n cs h) ?_
  cases hg : areLettersB n cs with
  | false => simpa using ev_now _
  | true =>
    obtain ⟨h1, h2, h3, h4⟩ := areLettersB_true hg
    simp only [if_true]
    exact spec_l0 h1 h2 h3 h4 (cs.length + 1) 0 (by omega)
theorem lit_ev {n : Int} {cs : List S59} (h1 : 1 ≤ n) (h2 : n ≤ 10) (h3 : cs.length ≤ 60) (h4 : ∀ c ∈ cs, isLetterB n c.f0 c.f1 = true) (i : Nat) (hi : i < cs.length + 1) : Ev (fun k => impl_LettersNeeded.g k n cs i) (knowP n cs i) := by
  unfold impl_LettersNeeded.g impl_LettersNeededLit1.f
  have t1 : ∀ c ∈ cs.take i, isLetterB n c.f0 c.f1 = true := fun c hc => h4 c (List.mem_of_mem_take hc)
  have q1 : (0 : Int) ≤ (i : Int) := by omega
  have q2 : (i : Int) ≤ (cs.length : Int) := by omega
  simp only [if_pos q1, if_pos q2, Int.toNat_natCast]
  refine Ev.bind (Ev.bind (byLetters_ev _ h1 h2 (by rw [List.length_take]; omega) t1) (ev_now _)) ?_
  exact allKnow_ev (by omega) (smallP_ofL h1 t1)
theorem impl_ev (n : Int) (cs : List S59) (h : cs.length ≤ 1048576) : Ev (fun k => impl_LettersNeeded.f k n cs) (resP n cs) := by
  unfold impl_LettersNeeded.f resP impl_AreLetters.f
  simp only [Option.bind_some]
  cases hg : areLettersB n cs with
  | false => simpa using ev_now _
  | true =>
    obtain ⟨h1, h2, h3, h4⟩ := areLettersB_true hg
    simp only [if_true]
    exact ev_neededO h (fun i hi => lit_ev h1 h2 h3 h4 i hi)
theorem FnExactLettersNeeded : ∀ (a0 : Int) (l1 : (List S61)), (Lit.int .i64 a0).wf = true → l1.length ≤ 9223372036854775807 → ∃ k, laws_FnExactLettersNeeded.f k a0 l1 = some true := by
  intro a0 l1 w0 hl1
  apply Ev.rounds
  unfold laws_FnExactLettersNeeded.f
  by_cases h1 : l1.length ≤ 1048576
  · simp only [szLetterS_small l1 h1, Option.bind_some]
    have h0 : ¬ (1048576 - (l1.length : Int)) < 0 := by omega
    simp only [if_neg h0]
    have g1 : (toLetters l1).length ≤ 1048576 := by rw [toLetters_length]; exact h1
    refine Ev.bind (toLetterS_ev l1 h1) ?_
    refine Ev.bind (spec_ev a0 (toLetters l1) g1) ?_
    refine Ev.bind (toLetterS_ev l1 h1) ?_
    refine Ev.bind (impl_ev a0 (toLetters l1) g1) ?_
    simp only [bne_self_eq_false, Bool.false_eq_true, if_false, if_true]
    refine Ev.step (fun k => by simp only [laws_FnExactLettersNeeded.j0, Bool.false_eq_true, if_false] <;> exact rfl) ?_
    refine Ev.bind (toLetterS_ev l1 h1) ?_
    refine Ev.bind (eqLetterS_ev _ g1) ?_
    simp only [if_true]
    exact ev_now _
  · simp only [szLetterS_great l1 h1 hl1, Option.bind_some]
    exact ev_now _

end Go.Proofs.Ytchdgmamkafcnaa.Pure
