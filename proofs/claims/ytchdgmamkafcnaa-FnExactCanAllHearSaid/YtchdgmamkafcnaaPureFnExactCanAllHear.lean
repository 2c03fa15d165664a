/- The pure side of FnExactCanAllHear: program and reference agree at every argument. No condition beside what an argument is. -/
import Derived.Test.YtchdgmamkafcnaaPFnExactCanAllHearx11
import Derived.Test.YtchdgmamkafcnaaPBase
import Derived.Test.YtchdgmamkafcnaaHBits
namespace Go.Proofs.Ytchdgmamkafcnaa.Pure
open Go.RowKit Go.Proofs.Ytchdgmamkafcnaa.PFnExactCanAllHear Go.Proofs.YtchdgmamkafcnaaW.PrintWords Go.Proofs.YtchdgmamkafcnaaW.PrintLast Go.Proofs.YtchdgmamkafcnaaW.PrintMore Go.Proofs.Ytchdgmamkafcnaa.PB
set_option linter.unusedSimpArgs false
set_option linter.unusedVariables false
/-! letters: read, compared, marked -/
def toLetters (l : List S61) : List S59 := l.map fun c => ⟨c.f0, c.f1⟩
theorem toLetters_length (l : List S61) : (toLetters l).length = l.length := by simp [toLetters]

theorem szLetterS_small (l : List S61) (h : l.length ≤ 1048576) : laws_szLetterS.f l 1048576 = some (1048576 - (l.length : Int)) := by
  unfold laws_szLetterS.f
  rw [w64 (by omega) (by omega), if_neg (by omega)]
theorem szLetterS_great (l : List S61) (h : ¬ l.length ≤ 1048576) (h2 : l.length ≤ 9223372036854775807) : laws_szLetterS.f l 1048576 = some (-1) := by
  unfold laws_szLetterS.f
  rw [w64 (by omega) (by omega), if_pos (by omega)]

theorem toLetterS_l0 (l : List S61) (h : l.length ≤ 1048576) : ∀ (d : Nat) (i : Int) (acc : List S59), 0 ≤ i → i + d = l.length → acc.length = l.length →
    (∀ j : Nat, (j : Int) < i → acc.getD j z59 = (toLetters l).getD j z59) → Ev (fun k => laws_toLetterS.l0 k l acc i) (toLetters l) := by
  intro d
  induction d with
  | zero =>
    intro i acc h0 hi hl hacc
    refine ev_step (f := fun _ => some acc) (fun k => ?_) ?_
    · simp only [laws_toLetterS.l0]; rw [if_neg (by omega)]
    · have : acc = toLetters l := ext_getD z59 (by rw [hl, toLetters_length]) (fun j hj => hacc j (by omega))
      rw [this]; exact ev_now _
  | succ d ih =>
    intro i acc h0 hi hl hacc
    refine ev_step (f := fun k => laws_toLetterS.l0 k l (acc.set i.toNat ⟨(l.getD i.toNat z61).f0, (l.getD i.toNat z61).f1⟩) (i + 1)) (fun k => ?_) ?_
    · simp only [laws_toLetterS.l0, laws_toLetter.f, rd_T61, Option.bind_some]
      rw [if_pos (by omega), if_pos h0, if_pos (by omega), w64 (by omega) (by omega)]
    · refine ih (i + 1) _ (by omega) (by omega) (by simpa using hl) (fun j hj => ?_)
      rw [getD_set _ _ _ _ _ (by omega)]
      split
      · rename_i e
        subst e
        rw [toLetters, getD_map (fun c : S61 => (⟨c.f0, c.f1⟩ : S59)) l i.toNat z61 z59 (by omega)]
      · exact hacc j (by omega)
theorem toLetterS_ev (l : List S61) (h : l.length ≤ 1048576) : Ev (fun k => laws_toLetterS.f k l) (toLetters l) := by
  unfold laws_toLetterS.f
  have h1 : (0 : Int) ≤ (l.length : Int) := by omega
  have h2 : ((l.length : Int)).toNat ≤ 17592186044416 := by omega
  simp only [if_pos h1, if_pos h2]
  exact toLetterS_l0 l h l.length 0 _ (by omega) (by omega) (by simp) (fun j hj => by omega)

theorem eqLetterS_l0 (a : List S59) (h : a.length ≤ 1048576) : ∀ (d : Nat) (i : Int), 0 ≤ i → i + d = a.length → Ev (fun k => laws_eqLetterS.l0 k a a i) true := by
  intro d
  induction d with
  | zero =>
    intro i h0 hi
    refine ev_step (f := fun _ => some true) (fun k => ?_) (ev_now _)
    simp only [laws_eqLetterS.l0]; rw [if_neg (by omega)]
  | succ d ih =>
    intro i h0 hi
    refine ev_step (f := fun k => laws_eqLetterS.l0 k a a (i + 1)) (fun k => ?_) (ih _ (by omega) (by omega))
    simp only [laws_eqLetterS.l0, laws_eqLetter.f, if_true, Option.bind_some]
    rw [if_pos (by omega), if_pos h0, if_pos (by omega), w64 (by omega) (by omega)]
theorem eqLetterS_ev (a : List S59) (h : a.length ≤ 1048576) : Ev (fun k => laws_eqLetterS.f k a a) true := by
  unfold laws_eqLetterS.f
  simp only [if_true]
  exact eqLetterS_l0 a h a.length 0 (by omega) (by omega)

/-! spec.leGood -/
theorem caFriends_f (n : Int) : spec_caFriends.f n = some (decide (1 ≤ n) && decide (n ≤ 10)) := by
  unfold spec_caFriends.f spec_l1In.f
  by_cases h1 : 1 ≤ n <;> by_cases h2 : n ≤ 10 <;> simp [h1, h2]
theorem leLetter_f (n a b : Int) (h1 : 1 ≤ n) (h2 : n ≤ 10) : spec_leLetter.f n a b = some (isLetterB n a b) := by
  unfold spec_leLetter.f spec_l1In.f isLetterB
  rw [w64 (by omega) (by omega)]
  have e : ∀ x : Int, decide (x ≤ n - 1) = decide (x < n) := fun x => by rw [decide_eq_decide]; omega
  by_cases g1 : 0 ≤ a
  · by_cases g2 : a < n
    · have g2' : a ≤ n - 1 := by omega
      by_cases g3 : 0 ≤ b
      · by_cases g4 : b < n
        · have g4' : b ≤ n - 1 := by omega
          simp [g1, g2, g2', g3, g4, g4', bne]
        · have g4' : ¬ b ≤ n - 1 := by omega
          simp [g1, g2, g2', g3, g4, g4']
      · simp [g1, g2, g2', g3]
    · have g2' : ¬ a ≤ n - 1 := by omega
      simp [g1, g2, g2']
  · simp [g1]
theorem leGood_l0 (n : Int) (l : List S59) (h : l.length ≤ 1048576) (h1 : 1 ≤ n) (h2 : n ≤ 10) : ∀ (d : Nat) (i : Int), 0 ≤ i → i + d = l.length →
    Ev (fun k => spec_leGood.l0 k n l (l.length : Int) i) ((l.drop i.toNat).all fun c => isLetterB n c.f0 c.f1) := by
  intro d
  induction d with
  | zero =>
    intro i h0 hi
    refine ev_step (f := fun _ => some true) (fun k => ?_) ?_
    · simp only [spec_leGood.l0]; rw [if_neg (by omega)]
    · rw [List.drop_eq_nil_of_le (by omega)]; exact ev_now _
  | succ d ih =>
    intro i h0 hi
    have hd := drop_at l i.toNat z59 (by omega)
    cases hq : isLetterB n (l.getD i.toNat z59).f0 (l.getD i.toNat z59).f1 with
    | true =>
      refine ev_step (f := fun k => spec_leGood.l0 k n l (l.length : Int) (i + 1)) (fun k => ?_) ?_
      · simp only [spec_leGood.l0, rd_T59, leLetter_f n _ _ h1 h2, Option.bind_some, hq, if_true]
        rw [if_pos (by omega), if_pos h0, if_pos (by omega), w64 (by omega) (by omega)]
      · have := ih (i + 1) (by omega) (by omega)
        rw [hd, List.all_cons, hq, Bool.true_and]
        rwa [show (i + 1).toNat = i.toNat + 1 by omega] at this
    | false =>
      refine ev_step (f := fun _ => some false) (fun k => ?_) ?_
      · simp only [spec_leGood.l0, rd_T59, leLetter_f n _ _ h1 h2, Option.bind_some, hq]
        rw [if_pos (by omega), if_pos h0, if_pos (by omega), if_neg (by simp)]
      · rw [hd, List.all_cons, hq, Bool.false_and]; exact ev_now _
theorem leGood_ev (n : Int) (l : List S59) (h : l.length ≤ 1048576) : Ev (fun k => spec_leGood.f k n l) (areLettersB n l) := by
  unfold spec_leGood.f
  simp only [caFriends_f, Option.bind_some]
  by_cases h1 : 1 ≤ n ∧ n ≤ 10
  · obtain ⟨h1, h2⟩ := h1
    by_cases h3 : l.length ≤ 60
    · have e : areLettersB n l = l.all fun c => isLetterB n c.f0 c.f1 := by simp [areLettersB, h1, h2, h3]
      rw [e]
      have e2 : decide ((l.length : Int) > 60) = false := by rw [decide_eq_false_iff_not]; omega
      simp only [h1, h2, decide_true, Bool.and_self, if_true, e2]
      refine ev_step (f := fun k => spec_leGood.l0 k n l (l.length : Int) 0) (fun k => by simp [spec_leGood.j0]) ?_
      simpa using leGood_l0 n l h h1 h2 l.length 0 (by omega) (by omega)
    · have e : areLettersB n l = false := by simp [areLettersB, h3]
      rw [e]
      have e2 : decide ((l.length : Int) > 60) = true := by rw [decide_eq_true_eq]; omega
      simp only [h1, h2, decide_true, Bool.and_self, if_true, e2]
      exact ev_step (f := fun _ => some false) (fun k => by simp [spec_leGood.j0]) (ev_now _)
  · have e : areLettersB n l = false := by rw [Bool.eq_false_iff]; intro hh; simp [areLettersB] at hh; exact h1 ⟨hh.1, hh.2.1⟩
    have e1 : (decide (1 ≤ n) && decide (n ≤ 10)) = false := by rw [Bool.eq_false_iff]; simpa using h1
    rw [e]
    simp only [e1]
    exact ev_step (f := fun _ => some false) (fun k => by simp [spec_leGood.j0]) (ev_now _)
theorem areLettersB_true {n : Int} {cs : List S59} (h : areLettersB n cs = true) : 1 ≤ n ∧ n ≤ 10 ∧ cs.length ≤ 60 ∧ ∀ c ∈ cs, isLetterB n c.f0 c.f1 = true := by
  simp [areLettersB] at h
  exact h

/-! news: what friends know, as numbers below 2^n -/
def orI (a b : Int) : Int := ((a.toNat ||| b.toNat : Nat) : Int)
def startP (n : Nat) : List Int := (List.range n).map fun i => ((2 ^ i : Nat) : Int)
def SmallP (n : Nat) (l : List Int) : Prop := l.length = n ∧ ∀ x ∈ l, 0 ≤ x ∧ x < ((2 ^ n : Nat) : Int)
theorem smallP_at {n : Nat} {l : List Int} (h : SmallP n l) (i : Nat) (hi : i < n) : 0 ≤ l.getD i 0 ∧ l.getD i 0 < ((2 ^ n : Nat) : Int) := by
  have hl : i < l.length := by rw [h.1]; exact hi
  rw [getD_at l i 0 hl]
  exact h.2 _ (List.getElem_mem hl)
theorem smallP_1024 {n : Nat} {l : List Int} (h : SmallP n l) (hn : n ≤ 10) (i : Nat) (hi : i < n) : 0 ≤ l.getD i 0 ∧ l.getD i 0 < 1024 := by
  have h1 := smallP_at h i hi
  have h2 : 2 ^ n ≤ 2 ^ 10 := Nat.pow_le_pow_right (by omega) hn
  omega
theorem smallP_start (n : Nat) : SmallP n (startP n) := by
  refine ⟨by simp [startP], fun x hx => ?_⟩
  obtain ⟨i, hi, rfl⟩ := List.mem_map.1 hx
  have : i < n := by simpa using hi
  have h2 : 2 ^ i < 2 ^ n := Nat.pow_lt_pow_right (by omega) this
  have h3 : 0 < 2 ^ i := Nat.two_pow_pos i
  omega
theorem orI_lt {n : Nat} {a b : Int} (ha : 0 ≤ a ∧ a < ((2 ^ n : Nat) : Int)) (hb : 0 ≤ b ∧ b < ((2 ^ n : Nat) : Int)) : 0 ≤ orI a b ∧ orI a b < ((2 ^ n : Nat) : Int) := by
  have h := Nat.or_lt_two_pow (x := a.toNat) (y := b.toNat) (n := n) (by omega) (by omega)
  unfold orI
  omega
theorem smallP_set {n : Nat} {l : List Int} (h : SmallP n l) (i : Nat) (x : Int) (hx : 0 ≤ x ∧ x < ((2 ^ n : Nat) : Int)) : SmallP n (l.set i x) := by
  refine ⟨by rw [List.length_set, h.1], fun y hy => ?_⟩
  rcases List.mem_or_eq_of_mem_set hy with h1 | h1
  · exact h.2 y h1
  · rw [h1]; exact hx
theorem or_i64 {a b : Int} (ha : 0 ≤ a ∧ a < 1024) (hb : 0 ≤ b ∧ b < 1024) : Go.bits .or .i64 a b = orI a b := by
  have h := (bits_nat .i64 10 (by decide) (fun n h0 h1 => by rw [IntKind.wrap_i64]; omega) a.toNat b.toNat (by omega) (by omega)).2
  rw [show ((a.toNat : Nat) : Int) = a by omega, show ((b.toNat : Nat) : Int) = b by omega] at h
  exact h
theorem or_u16 {a b : Int} (ha : 0 ≤ a ∧ a < 1024) (hb : 0 ≤ b ∧ b < 1024) : Go.bits .or .u16 a b = orI a b := by
  have h := (bits_nat .u16 10 (by decide) (fun n h0 h1 => by simp [IntKind.wrap, IntKind.bits, IntKind.signed]; omega) a.toNat b.toNat (by omega) (by omega)).2
  rw [show ((a.toNat : Nat) : Int) = a by omega, show ((b.toNat : Nat) : Int) = b by omega] at h
  exact h
theorem shl_i64_all : ∀ i : Fin 11, shl .i64 1 (i.val : Int) = ((2 ^ i.val : Nat) : Int) := by decide +kernel
theorem shl_u16_all : ∀ i : Fin 11, shl .u16 1 (i.val : Int) = ((2 ^ i.val : Nat) : Int) := by decide +kernel
theorem shl_i64_at (i : Int) (h0 : 0 ≤ i) (h1 : i ≤ 10) : shl .i64 1 i = ((2 ^ i.toNat : Nat) : Int) := by
  have := shl_i64_all ⟨i.toNat, by omega⟩
  simp only [Int.toNat_of_nonneg h0] at this
  exact this
theorem shl_u16_at (i : Int) (h0 : 0 ≤ i) (h1 : i ≤ 10) : shl .u16 1 i = ((2 ^ i.toNat : Nat) : Int) := by
  have := shl_u16_all ⟨i.toNat, by omega⟩
  simp only [Int.toNat_of_nonneg h0] at this
  exact this
theorem startP_take (n i : Nat) (h : i < n) : (startP n).take (i + 1) = (startP n).take i ++ [((2 ^ i : Nat) : Int)] := by
  rw [take_at (startP n) i 0 (by simpa [startP] using h), startP, getD_range_map _ _ _ _ h]
theorem caStart_l0 (n : Nat) (hn : n ≤ 10) : ∀ (d : Nat) (i : Int), 0 ≤ i → i + d = n → Ev (fun k => spec_caStart.l0 k (n : Int) ((startP n).take i.toNat) i) (startP n) := by
  intro d
  have hl : (startP n).length = n := by simp [startP]
  induction d with
  | zero =>
    intro i h0 hi
    refine ev_step (f := fun _ => some ((startP n).take i.toNat)) (fun k => ?_) ?_
    · simp only [spec_caStart.l0]; rw [if_neg (by omega)]
    · rw [List.take_of_length_le (by omega)]; exact ev_now _
  | succ d ih =>
    intro i h0 hi
    refine ev_step (f := fun k => spec_caStart.l0 k (n : Int) ((startP n).take (i + 1).toNat) (i + 1)) (fun k => ?_) (ih _ (by omega) (by omega))
    simp only [spec_caStart.l0]
    rw [if_pos (by omega), if_pos h0, if_pos (by rw [List.length_take]; omega), w64 (by omega) (by omega), shl_i64_at i h0 (by omega), ← startP_take n i.toNat (by omega), show (i + 1).toNat = i.toNat + 1 by omega]
theorem caStart_ev (n : Int) (h1 : 1 ≤ n) (h2 : n ≤ 10) : Ev (fun k => spec_caStart.f k n) (startP n.toNat) := by
  have := caStart_l0 n.toNat (by omega) n.toNat 0 (by omega) (by omega)
  unfold spec_caStart.f
  simpa [show ((n.toNat : Nat) : Int) = n by omega] using this
theorem first_l0 (n : Nat) (hn : n ≤ 10) : ∀ (d : Nat) (i : Int), 0 ≤ i → i + d = n → Ev (fun k => impl_first.l0 k ((startP n).take i.toNat) (n : Int) i) (startP n) := by
  intro d
  have hl : (startP n).length = n := by simp [startP]
  induction d with
  | zero =>
    intro i h0 hi
    refine ev_step (f := fun _ => some ((startP n).take i.toNat)) (fun k => ?_) ?_
    · simp only [impl_first.l0]; rw [if_neg (by omega)]
    · rw [List.take_of_length_le (by omega)]; exact ev_now _
  | succ d ih =>
    intro i h0 hi
    refine ev_step (f := fun k => impl_first.l0 k ((startP n).take (i + 1).toNat) (n : Int) (i + 1)) (fun k => ?_) (ih _ (by omega) (by omega))
    simp only [impl_first.l0]
    rw [if_pos (by omega), if_pos h0, if_pos (by rw [List.length_take]; omega), w64 (by omega) (by omega), shl_u16_at i h0 (by omega), ← startP_take n i.toNat (by omega), show (i + 1).toNat = i.toNat + 1 by omega]
theorem first_ev (n : Int) (h1 : 1 ≤ n) (h2 : n ≤ 10) : Ev (fun k => impl_first.f k n) (startP n.toNat) := by
  have := first_l0 n.toNat (by omega) n.toNat 0 (by omega) (by omega)
  unfold impl_first.f
  simpa [show ((n.toNat : Nat) : Int) = n by omega] using this

/-! news behind letters -/
def tellP (l : List Int) (c : S59) : List Int := l.set c.f1.toNat (orI (l.getD c.f1.toNat 0) (l.getD c.f0.toNat 0))
def playL (n : Nat) (cs : List S59) : List Int := cs.foldl tellP (startP n)
theorem isLetterB_true {n a b : Int} (h : isLetterB n a b = true) : 0 ≤ a ∧ a < n ∧ 0 ≤ b ∧ b < n := by
  simp [isLetterB] at h
  omega
theorem smallP_tell {n : Nat} {l : List Int} (h : SmallP n l) (c : S59) (hc : isLetterB n c.f0 c.f1 = true) : SmallP n (tellP l c) := by
  obtain ⟨h1, h2, h3, h4⟩ := isLetterB_true hc
  exact smallP_set h _ _ (orI_lt (smallP_at h c.f1.toNat (by omega)) (smallP_at h c.f0.toNat (by omega)))
theorem smallP_foldL {n : Nat} : ∀ (cs : List S59) (l : List Int), SmallP n l → (∀ c ∈ cs, isLetterB n c.f0 c.f1 = true) → SmallP n (cs.foldl tellP l)
  | [], _, h, _ => h
  | c :: cs, _, h, hc => smallP_foldL cs _ (smallP_tell h c (hc c (List.mem_cons_self))) (fun d hd => hc d (List.mem_cons_of_mem _ hd))
theorem smallP_playL {n : Nat} (cs : List S59) (hc : ∀ c ∈ cs, isLetterB n c.f0 c.f1 = true) : SmallP n (playL n cs) := smallP_foldL cs _ (smallP_start n) hc

/-! all know -/
theorem pop_all : ∀ n : Fin 11, ∀ x : Fin 1024, x.val < 2 ^ n.val → (Go.Proofs.Ytchdgmamkafcnaa.H.pop16 x.val ≤ n.val ∧ (Go.Proofs.Ytchdgmamkafcnaa.H.pop16 x.val = n.val ↔ x.val = 2 ^ n.val - 1)) := by decide +kernel
def popI (x : Int) : Nat := Go.Proofs.Ytchdgmamkafcnaa.H.pop16 x.toNat
theorem popI_le {n : Nat} (hn : n ≤ 10) {x : Int} (hx : 0 ≤ x ∧ x < ((2 ^ n : Nat) : Int)) : popI x ≤ n ∧ (popI x = n ↔ x = ((2 ^ n - 1 : Nat) : Int)) := by
  have h2 : 2 ^ n ≤ 2 ^ 10 := Nat.pow_le_pow_right (by omega) hn
  have h := pop_all ⟨n, by omega⟩ ⟨x.toNat, by omega⟩ (by show x.toNat < 2 ^ n; omega)
  have h' : Go.Proofs.Ytchdgmamkafcnaa.H.pop16 x.toNat ≤ n ∧ (Go.Proofs.Ytchdgmamkafcnaa.H.pop16 x.toNat = n ↔ x.toNat = 2 ^ n - 1) := h
  refine ⟨h'.1, h'.2.trans ⟨fun e => by omega, fun e => by omega⟩⟩
def sumP (l : List Int) : Nat := (l.map popI).sum
theorem sumP_le (n : Nat) : ∀ (l : List Int), (∀ x ∈ l, popI x ≤ n) → sumP l ≤ n * l.length ∧ (sumP l = n * l.length ↔ ∀ x ∈ l, popI x = n)
  | [], _ => by simp [sumP]
  | x :: l, h => by
    have ih := sumP_le n l (fun y hy => h y (List.mem_cons_of_mem _ hy))
    have hx := h x (List.mem_cons_self)
    have e : sumP (x :: l) = popI x + sumP l := by simp [sumP]
    rw [e, List.length_cons, Nat.mul_succ]
    refine ⟨by omega, ⟨fun hh => ?_, fun hh => ?_⟩⟩
    · intro y hy
      rcases List.mem_cons.1 hy with rfl | hy
      · omega
      · exact (ih.2.1 (by omega)) y hy
    · have h1 := hh x (List.mem_cons_self)
      have h2 := ih.2.2 (fun y hy => hh y (List.mem_cons_of_mem _ hy))
      omega
def allP (n : Nat) (l : List Int) : Bool := l.all fun x => x == ((2 ^ n - 1 : Nat) : Int)
theorem allP_sum {n : Nat} (hn : n ≤ 10) {l : List Int} (h : SmallP n l) : (((sumP l : Nat) : Int) == (n : Int) * (n : Int)) = allP n l := by
  have hp := fun x hx => popI_le hn (h.2 x hx)
  have hs := sumP_le n l (fun x hx => (hp x hx).1)
  rw [h.1] at hs
  rw [Bool.eq_iff_iff, beq_iff_eq, allP, List.all_eq_true]
  constructor
  · intro e x hx
    rw [beq_iff_eq]
    exact (hp x hx).2.1 (hs.2.1 (by exact_mod_cast e) x hx)
  · intro e
    have := hs.2.2 (fun x hx => (hp x hx).2.2 (by simpa using e x hx))
    exact_mod_cast this
theorem onesCount_f {x : Int} (hx : 0 ≤ x ∧ x < 1024) : bits_OnesCount16.f x = some ((popI x : Nat) : Int) := by
  unfold bits_OnesCount16.f
  rw [if_pos hx.1, if_pos (by omega)]
  rfl
theorem popI_le16 (x : Int) : popI x ≤ 16 := by
  have := List.countP_le_length (p := fun i => x.toNat.testBit i) (l := List.range 16)
  simpa [popI, Go.Proofs.Ytchdgmamkafcnaa.H.pop16] using this
theorem sumP_le16 (l : List Int) : sumP l ≤ 16 * l.length := (sumP_le 16 l (fun x _ => popI_le16 x)).1
theorem count_l0 {n : Nat} (hn : n ≤ 10) {l : List Int} (h : SmallP n l) : ∀ (d : Nat) (i : Int) (a : Nat), 0 ≤ i → i + d = l.length → a ≤ 16 * i.toNat → Ev (fun k => impl_news_count.l0 k (a : Int) l (l.length : Int) i) ((a + sumP (l.drop i.toNat) : Nat) : Int) := by
  intro d
  have hl := h.1
  induction d with
  | zero =>
    intro i a h0 hi ha
    refine ev_step (f := fun _ => some (a : Int)) (fun k => ?_) ?_
    · simp only [impl_news_count.l0]; rw [if_neg (by omega)]
    · rw [List.drop_eq_nil_of_le (by omega)]; exact ev_now _
  | succ d ih =>
    intro i a h0 hi ha
    have hd := drop_at l i.toNat 0 (by omega)
    have hp := popI_le16 (l.getD i.toNat 0)
    refine ev_step (f := fun k => impl_news_count.l0 k ((a + popI (l.getD i.toNat 0) : Nat) : Int) l (l.length : Int) (i + 1)) (fun k => ?_) ?_
    · simp only [impl_news_count.l0]
      rw [if_pos (by omega), if_pos h0, if_pos (by omega), onesCount_f (show 0 ≤ rd l i ∧ rd l i < 1024 from smallP_1024 h hn i.toNat (by omega))]
      simp only [Option.bind_some]
      rw [w64 (x := i + 1) (by omega) (by omega), show rd l i = l.getD i.toNat 0 from rfl, w64 (by omega) (by omega)]
      rfl
    · have := ih (i + 1) (a + popI (l.getD i.toNat 0)) (by omega) (by omega) (by omega)
      rw [show (i + 1).toNat = i.toNat + 1 by omega] at this
      rw [hd]
      have e : sumP (l.getD i.toNat 0 :: l.drop (i.toNat + 1)) = popI (l.getD i.toNat 0) + sumP (l.drop (i.toNat + 1)) := by simp [sumP]
      rw [e, ← Nat.add_assoc]
      exact this
theorem count_ev {n : Nat} (hn : n ≤ 10) {l : List Int} (h : SmallP n l) : Ev (fun k => impl_news_count.f k l) ((sumP l : Nat) : Int) := by
  have hl := h.1
  have := count_l0 hn h l.length 0 0 (by omega) (by omega) (by omega)
  unfold impl_news_count.f
  simpa using this

theorem allKnow_ev {n : Nat} (hn : n ≤ 10) {l : List Int} (h : SmallP n l) : Ev (fun k => impl_news_allKnow.f k l) (allP n l) := by
  have hl := h.1
  unfold impl_news_allKnow.f
  refine Ev.bind (count_ev hn h) ?_
  have e : (l.length : Int) * (l.length : Int) = (n : Int) * (n : Int) := by rw [hl]
  have hb : (n : Int) * (n : Int) ≤ 10 * 10 := Int.mul_le_mul (by omega) (by omega) (by omega) (by omega)
  have hb0 : 0 ≤ (n : Int) * (n : Int) := Int.mul_nonneg (by omega) (by omega)
  rw [e, w64 (by omega) (by omega), allP_sum hn h]
  exact ev_now _
theorem caAll_l0 {n : Nat} (hn : n ≤ 10) {l : List Int} (h : SmallP n l) : ∀ (d : Nat) (i : Int), 0 ≤ i → i + d = l.length → Ev (fun k => spec_caAll.l0 k l l (l.length : Int) i) (allP n (l.drop i.toNat)) := by
  intro d
  have hl := h.1
  have hw : wrap64 ((shl .i64 1 (l.length : Int)) - 1) = ((2 ^ n - 1 : Nat) : Int) := by
    have h2 : 2 ^ n ≤ 2 ^ 10 := Nat.pow_le_pow_right (by omega) hn
    have h3 : 0 < 2 ^ n := Nat.two_pow_pos n
    rw [shl_i64_at _ (by omega) (by omega), hl, show ((n : Int)).toNat = n by omega, w64 (by omega) (by omega)]
    omega
  induction d with
  | zero =>
    intro i h0 hi
    refine ev_step (f := fun _ => some true) (fun k => ?_) ?_
    · simp only [spec_caAll.l0]; rw [if_neg (by omega)]
    · rw [List.drop_eq_nil_of_le (by omega)]; exact ev_now _
  | succ d ih =>
    intro i h0 hi
    have hd := drop_at l i.toNat 0 (by omega)
    have ea : allP n (l.drop i.toNat) = ((l.getD i.toNat 0 == ((2 ^ n - 1 : Nat) : Int)) && allP n (l.drop (i.toNat + 1))) := by rw [hd]; rfl
    rw [ea]
    by_cases hq : l.getD i.toNat 0 = ((2 ^ n - 1 : Nat) : Int)
    · refine ev_step (f := fun k => spec_caAll.l0 k l l (l.length : Int) (i + 1)) (fun k => ?_) ?_
      · simp only [spec_caAll.l0, hw, show rd l i = l.getD i.toNat 0 from rfl]
        rw [if_pos (by omega), if_pos h0, if_pos (by omega), if_pos hq, w64 (by omega) (by omega)]
      · have := ih (i + 1) (by omega) (by omega)
        rw [show (i + 1).toNat = i.toNat + 1 by omega] at this
        rw [beq_iff_eq.2 hq, Bool.true_and]
        exact this
    · refine ev_step (f := fun _ => some false) (fun k => ?_) ?_
      · simp only [spec_caAll.l0, hw, show rd l i = l.getD i.toNat 0 from rfl]
        rw [if_pos (by omega), if_pos h0, if_pos (by omega), if_neg hq]
      · rw [beq_eq_false_iff_ne.2 hq, Bool.false_and]; exact ev_now _
theorem caAll_ev {n : Nat} (hn : n ≤ 10) {l : List Int} (h : SmallP n l) : Ev (fun k => spec_caAll.f k l) (allP n l) := by
  have hl := h.1
  have := caAll_l0 hn h l.length 0 (by omega) (by omega)
  unfold spec_caAll.f
  simpa using this

/-! who can hear from whom -/
inductive Reach (cs : List S59) (s : Nat) : Nat → Prop
  | refl : Reach cs s s
  | step (c : S59) : Reach cs s c.f0.toNat → c ∈ cs → Reach cs s c.f1.toNat
theorem Reach.head {cs : List S59} {c : S59} (hc : c ∈ cs) {t : Nat} (h : Reach cs c.f1.toNat t) : Reach cs c.f0.toNat t := by
  induction h with
  | refl => exact Reach.step c Reach.refl hc
  | step d _ hd ih => exact Reach.step d ih hd
def bitV (l : List Int) (v i : Nat) : Bool := (l.getD v 0).toNat.testBit i
theorem orI_bit (a b : Int) (i : Nat) : (orI a b).toNat.testBit i = (a.toNat.testBit i || b.toNat.testBit i) := by
  rw [orI, Int.toNat_natCast, Nat.testBit_or]
theorem bitV_set (l : List Int) (u : Nat) (x : Int) (hu : u < l.length) (v i : Nat) : bitV (l.set u x) v i = if v = u then x.toNat.testBit i else bitV l v i := by
  unfold bitV
  by_cases e : v = u
  · subst e
    rw [if_pos rfl, List.getD_eq_getElem?_getD, List.getElem?_set_self hu]
    rfl
  · rw [if_neg e, List.getD_eq_getElem?_getD, List.getElem?_set_ne (by omega), ← List.getD_eq_getElem?_getD]
theorem bitV_start (n v i : Nat) (hv : v < n) : bitV (startP n) v i = decide (v = i) := by
  unfold bitV startP
  rw [getD_range_map _ _ _ _ hv, Int.toNat_natCast, Nat.testBit_two_pow]
/-! the program: out[To] |= out[From], n rounds -/
def GoodL (n : Nat) (cs : List S59) : Prop := ∀ c ∈ cs, isLetterB n c.f0 c.f1 = true
theorem tell_bit {n : Nat} {l : List Int} (h : SmallP n l) {c : S59} (hc : isLetterB n c.f0 c.f1 = true) (v i : Nat) : bitV (tellP l c) v i = (bitV l v i || (decide (v = c.f1.toNat) && bitV l c.f0.toNat i)) := by
  obtain ⟨h1, h2, h3, h4⟩ := isLetterB_true hc
  unfold tellP
  rw [bitV_set _ _ _ (by rw [h.1]; omega), orI_bit]
  by_cases e : v = c.f1.toNat
  · subst e; rw [if_pos rfl]; simp [bitV]
  · rw [if_neg e]; simp [e]
theorem tells_mono {n : Nat} : ∀ (cs : List S59) (l : List Int), SmallP n l → GoodL n cs → ∀ v i, bitV l v i = true → bitV (cs.foldl tellP l) v i = true
  | [], _, _, _, _, _, h => h
  | c :: cs, l, hl, hc, v, i, h => tells_mono cs _ (smallP_tell hl c (hc c List.mem_cons_self)) (fun d hd => hc d (List.mem_cons_of_mem _ hd)) v i (by rw [tell_bit hl (hc c List.mem_cons_self), h, Bool.true_or])
/-- An arrow that is not closed yet is closed behind a round. -/
theorem tells_close {n : Nat} : ∀ (cs : List S59) (l : List Int), SmallP n l → GoodL n cs → ∀ c ∈ cs, ∀ i, bitV l c.f0.toNat i = true → bitV (cs.foldl tellP l) c.f1.toNat i = true
  | d :: cs, l, hl, hc, c, hm, i, h => by
    have hd := hc d List.mem_cons_self
    have hs := smallP_tell hl d hd
    have hc' : GoodL n cs := fun e he => hc e (List.mem_cons_of_mem _ he)
    rcases List.mem_cons.1 hm with rfl | hm
    · refine tells_mono cs _ hs hc' _ i ?_
      rw [tell_bit hl hd, h]; simp
    · refine tells_close cs _ hs hc' c hm i ?_
      rw [tell_bit hl hd, h, Bool.true_or]
/-- Where all arrows are closed for a source, a round turns nothing of it. -/
theorem tells_still {n : Nat} (i : Nat) : ∀ (cs : List S59) (l : List Int), SmallP n l → GoodL n cs → (∀ c ∈ cs, bitV l c.f0.toNat i = true → bitV l c.f1.toNat i = true) → ∀ v, bitV (cs.foldl tellP l) v i = bitV l v i
  | [], _, _, _, _, _ => rfl
  | c :: cs, l, hl, hc, hk, v => by
    have hd := hc c List.mem_cons_self
    have same : ∀ v, bitV (tellP l c) v i = bitV l v i := fun v => by
      rw [tell_bit hl hd]
      by_cases e : v = c.f1.toNat
      · subst e
        cases h0 : bitV l c.f0.toNat i with
        | false => simp
        | true => rw [hk c List.mem_cons_self h0]; simp
      · simp [e]
    rw [List.foldl_cons, tells_still i cs _ (smallP_tell hl c hd) (fun d hd => hc d (List.mem_cons_of_mem _ hd)) (fun d hd h0 => by rw [same] at h0 ⊢; exact hk d (List.mem_cons_of_mem _ hd) h0) v, same]
theorem tells_sound {n : Nat} {all : List S59} : ∀ (cs : List S59) (l : List Int), SmallP n l → GoodL n cs → (∀ c ∈ cs, c ∈ all) → (∀ v i, bitV l v i = true → Reach all i v) → ∀ v i, bitV (cs.foldl tellP l) v i = true → Reach all i v
  | [], _, _, _, _, h => h
  | c :: cs, l, hl, hc, hm, h => by
    have hd := hc c List.mem_cons_self
    refine tells_sound cs _ (smallP_tell hl c hd) (fun d hd => hc d (List.mem_cons_of_mem _ hd)) (fun d hd => hm d (List.mem_cons_of_mem _ hd)) (fun v i hv => ?_)
    rw [tell_bit hl hd] at hv
    rcases Bool.or_eq_true_iff.1 hv with hv | hv
    · exact h v i hv
    · simp only [Bool.and_eq_true, decide_eq_true_eq] at hv
      rw [hv.1]
      exact Reach.step c (h _ _ hv.2) (hm c List.mem_cons_self)
def roundsP (cs : List S59) : Nat → List Int → List Int
  | 0, l => l
  | k + 1, l => roundsP cs k (cs.foldl tellP l)
theorem rounds_small {n : Nat} {cs : List S59} (hc : GoodL n cs) : ∀ k l, SmallP n l → SmallP n (roundsP cs k l)
  | 0, _, h => h
  | k + 1, _, h => rounds_small hc k _ (smallP_foldL cs _ h hc)
theorem rounds_mono {n : Nat} {cs : List S59} (hc : GoodL n cs) : ∀ k l, SmallP n l → ∀ v i, bitV l v i = true → bitV (roundsP cs k l) v i = true
  | 0, _, _, _, _, h => h
  | k + 1, l, hl, v, i, h => rounds_mono hc k _ (smallP_foldL cs _ hl hc) v i (tells_mono cs l hl hc v i h)
theorem rounds_sound {n : Nat} {cs : List S59} (hc : GoodL n cs) : ∀ k l, SmallP n l → (∀ v i, bitV l v i = true → Reach cs i v) → ∀ v i, bitV (roundsP cs k l) v i = true → Reach cs i v
  | 0, _, _, h => h
  | k + 1, l, hl, h => rounds_sound hc k _ (smallP_foldL cs _ hl hc) (tells_sound cs l hl hc (fun _ h => h) h)
def closedS (cs : List S59) (l : List Int) (i : Nat) : Prop := ∀ c ∈ cs, bitV l c.f0.toNat i = true → bitV l c.f1.toNat i = true
def knowN (n : Nat) (l : List Int) (i : Nat) : Nat := (List.range n).countP (fun v => bitV l v i)
theorem countP_lt {p q : Nat → Bool} : ∀ (xs : List Nat), (∀ x ∈ xs, p x = true → q x = true) → (∃ x ∈ xs, p x = false ∧ q x = true) → xs.countP p < xs.countP q
  | x :: xs, h, ⟨y, hy, hp, hq⟩ => by
    have le := List.countP_mono_left (p := p) (q := q) (l := xs) (fun z hz => h z (List.mem_cons_of_mem _ hz))
    rw [List.countP_cons, List.countP_cons]
    rcases List.mem_cons.1 hy with rfl | hy
    · rw [hp, hq]; simp; omega
    · have := countP_lt xs (fun z hz => h z (List.mem_cons_of_mem _ hz)) ⟨y, hy, hp, hq⟩
      have hx := h x List.mem_cons_self
      cases hpx : p x with
      | true => rw [hx hpx]; simp; omega
      | false => cases q x <;> simp <;> omega
open Classical in
theorem rounds_closed {n : Nat} {cs : List S59} (hc : GoodL n cs) (i : Nat) : ∀ k l, SmallP n l → n ≤ knowN n l i + k → closedS cs (roundsP cs k l) i
  | 0, l, hl, hk => fun c hm h0 => by
    have hall : (List.range n).countP (fun v => bitV l v i) = (List.range n).length := Nat.le_antisymm (List.countP_le_length) (by rw [List.length_range]; unfold knowN at hk; omega)
    rw [List.countP_eq_length] at hall
    obtain ⟨h1, h2, h3, h4⟩ := isLetterB_true (hc c hm)
    exact hall c.f1.toNat (List.mem_range.2 (by omega))
  | k + 1, l, hl, hk => by
    have hs := smallP_foldL cs l hl hc
    by_cases hq : closedS cs l i
    · -- nothing is turned any more
      have still : ∀ k l, SmallP n l → closedS cs l i → closedS cs (roundsP cs k l) i := by
        intro k
        induction k with
        | zero => intro l _ h; exact h
        | succ k ih =>
          intro l hl h
          refine ih _ (smallP_foldL cs l hl hc) (fun c hm h0 => ?_)
          rw [tells_still i cs l hl hc h] at h0 ⊢
          exact h c hm h0
      exact still (k + 1) l hl hq
    · have hx : ∃ c, c ∈ cs ∧ bitV l c.f0.toNat i = true ∧ bitV l c.f1.toNat i = false := by
        refine Classical.byContradiction fun hn => hq (fun c hm h0 => ?_)
        cases h1 : bitV l c.f1.toNat i with
        | true => rfl
        | false => exact absurd ⟨c, hm, h0, h1⟩ hn
      obtain ⟨c, hm, h0, h1⟩ := hx
      obtain ⟨b1, b2, b3, b4⟩ := isLetterB_true (hc c hm)
      have hlt : knowN n l i < knowN n (cs.foldl tellP l) i := countP_lt _ (fun v _ hv => tells_mono cs l hl hc v i hv) ⟨c.f1.toNat, List.mem_range.2 (by omega), h1, tells_close cs l hl hc c hm i h0⟩
      exact rounds_closed hc i k _ hs (by omega)
theorem closed_all {cs : List S59} {l : List Int} {i : Nat} (h : closedS cs l i) (h0 : bitV l i i = true) {v : Nat} (hr : Reach cs i v) : bitV l v i = true := by
  induction hr with
  | refl => exact h0
  | step c _ hm ih => exact h c hm ih
def heardP (n : Nat) (cs : List S59) : List Int := roundsP cs n (startP n)
theorem heardP_iff {n : Nat} {cs : List S59} (hc : GoodL n cs) {v i : Nat} (hv : v < n) (hi : i < n) : bitV (heardP n cs) v i = true ↔ Reach cs i v := by
  have hs := smallP_start n
  constructor
  · -- a bit that is set from the start: only at its own place; what lies behind the list has no bit
    intro h
    refine rounds_sound hc n (startP n) hs (fun v i hb => ?_) v i h
    by_cases hvn : v < n
    · rw [bitV_start n v i hvn] at hb
      have : v = i := by simpa using hb
      subst this; exact Reach.refl
    · exfalso
      unfold bitV at hb
      rw [List.getD_eq_getElem?_getD, List.getElem?_eq_none (by rw [hs.1]; omega)] at hb
      simp at hb
  · intro hr
    refine closed_all (rounds_closed hc i n (startP n) hs (by omega)) (rounds_mono hc n _ hs i i ?_) hr
    rw [bitV_start n i i hi]; simp
theorem heardP_small {n : Nat} {cs : List S59} (hc : GoodL n cs) : SmallP n (heardP n cs) := rounds_small hc n _ (smallP_start n)
/-! the reference: heard[From] |= heard[To] until nothing is turned -/
def raiseP (q : List Int × Bool) (c : S59) : List Int × Bool := if orI (q.1.getD c.f0.toNat 0) (q.1.getD c.f1.toNat 0) = q.1.getD c.f0.toNat 0 then q else (q.1.set c.f0.toNat (orI (q.1.getD c.f0.toNat 0) (q.1.getD c.f1.toNat 0)), true)
theorem orI_ge {a b : Int} (ha : 0 ≤ a) : a ≤ orI a b := by
  have : a.toNat ≤ a.toNat ||| b.toNat := Nat.left_le_or
  unfold orI
  omega
theorem sum_set : ∀ (l : List Int) (u : Nat) (x : Int), u < l.length → (l.set u x).sum = l.sum + (x - l.getD u 0)
  | a :: l, 0, x, _ => by simp only [List.set_cons_zero, List.sum_cons, List.getD_cons_zero]; omega
  | a :: l, u + 1, x, h => by
    have := sum_set l u x (by simpa using h)
    simp only [List.set_cons_succ, List.sum_cons, List.getD_cons_succ]; omega
/-- What holds of the reference's list all along. -/
structure HeardOk (n : Nat) (cs : List S59) (l : List Int) : Prop where
  small : SmallP n l
  sound : ∀ v i, bitV l v i = true → Reach cs v i
  own : ∀ v, v < n → bitV l v v = true
theorem raise_ok {n : Nat} {cs : List S59} {q : List Int × Bool} {c : S59} (h : HeardOk n cs q.1) (hc : isLetterB n c.f0 c.f1 = true) (hm : c ∈ cs) : HeardOk n cs (raiseP q c).1 := by
  obtain ⟨h1, h2, h3, h4⟩ := isLetterB_true hc
  unfold raiseP
  split
  · exact h
  · have hl : c.f0.toNat < q.1.length := by rw [h.small.1]; omega
    refine ⟨smallP_set h.small _ _ (orI_lt (smallP_at h.small _ (by omega)) (smallP_at h.small _ (by omega))), fun v i hb => ?_, fun v hv => ?_⟩
    · rw [bitV_set _ _ _ hl, orI_bit] at hb
      by_cases e : v = c.f0.toNat
      · rw [if_pos e] at hb
        subst e
        rcases Bool.or_eq_true_iff.1 hb with hb | hb
        · exact h.sound _ i hb
        · exact Reach.head hm (h.sound _ i hb)
      · rw [if_neg e] at hb; exact h.sound v i hb
    · rw [bitV_set _ _ _ hl, orI_bit]
      by_cases e : v = c.f0.toNat
      · rw [if_pos e]; have := h.own v hv; unfold bitV at this; rw [← e, this, Bool.true_or]
      · rw [if_neg e]; exact h.own v hv
theorem raises_ok {n : Nat} {cs : List S59} : ∀ (ds : List S59) (q : List Int × Bool), HeardOk n cs q.1 → GoodL n ds → (∀ c ∈ ds, c ∈ cs) → HeardOk n cs (ds.foldl raiseP q).1
  | [], _, h, _, _ => h
  | c :: ds, q, h, hc, hm => raises_ok ds _ (raise_ok h (hc c List.mem_cons_self) (hm c List.mem_cons_self)) (fun d hd => hc d (List.mem_cons_of_mem _ hd)) (fun d hd => hm d (List.mem_cons_of_mem _ hd))
/-- A round's account: what was told as turned stays told; turned means a greater sum; not turned means closed and the list as it was. -/
theorem raises_sum {n : Nat} : ∀ (ds : List S59) (q : List Int × Bool), SmallP n q.1 → GoodL n ds → q.1.sum ≤ (ds.foldl raiseP q).1.sum ∧ (q.2 = true → (ds.foldl raiseP q).2 = true) ∧ ((ds.foldl raiseP q).2 = true → q.2 = false → q.1.sum < (ds.foldl raiseP q).1.sum) ∧ ((ds.foldl raiseP q).2 = false → (ds.foldl raiseP q).1 = q.1 ∧ ∀ c ∈ ds, orI (q.1.getD c.f0.toNat 0) (q.1.getD c.f1.toNat 0) = q.1.getD c.f0.toNat 0)
  | [], q, _, _ => ⟨Int.le_refl _, id, fun (h : q.2 = true) (h' : q.2 = false) => (by rw [h] at h'; cases h'), fun _ => ⟨rfl, fun _ h => by cases h⟩⟩
  | c :: ds, q, hs, hc => by
    obtain ⟨h1, h2, h3, h4⟩ := isLetterB_true (hc c List.mem_cons_self)
    have hl : c.f0.toNat < q.1.length := by rw [hs.1]; omega
    have a1 := smallP_at hs c.f0.toNat (by omega)
    have a2 := smallP_at hs c.f1.toNat (by omega)
    have hc' : GoodL n ds := fun d hd => hc d (List.mem_cons_of_mem _ hd)
    rw [List.foldl_cons]
    by_cases e : orI (q.1.getD c.f0.toNat 0) (q.1.getD c.f1.toNat 0) = q.1.getD c.f0.toNat 0
    · have er : raiseP q c = q := by unfold raiseP; rw [if_pos e]
      rw [er]
      obtain ⟨i1, i2, i3, i4⟩ := raises_sum ds q hs hc'
      refine ⟨i1, i2, i3, fun h => ⟨(i4 h).1, fun d hd => ?_⟩⟩
      rcases List.mem_cons.1 hd with rfl | hd
      · exact e
      · exact (i4 h).2 d hd
    · have er : raiseP q c = (q.1.set c.f0.toNat (orI (q.1.getD c.f0.toNat 0) (q.1.getD c.f1.toNat 0)), true) := by unfold raiseP; rw [if_neg e]
      rw [er]
      obtain ⟨i1, i2, i3, i4⟩ := raises_sum ds (q.1.set c.f0.toNat (orI (q.1.getD c.f0.toNat 0) (q.1.getD c.f1.toNat 0)), true) (smallP_set hs _ _ (orI_lt a1 a2)) hc'
      have hsum := sum_set q.1 c.f0.toNat (orI (q.1.getD c.f0.toNat 0) (q.1.getD c.f1.toNat 0)) hl
      have hge := orI_ge (b := q.1.getD c.f1.toNat 0) a1.1
      have t := i2 rfl
      simp only at i1
      refine ⟨by omega, fun _ => t, fun _ _ => by omega, fun h => ?_⟩
      rw [t] at h; cases h
theorem sum_bound_s {n : Nat} (hn : n ≤ 10) : ∀ (l : List Int), (∀ x ∈ l, 0 ≤ x ∧ x < ((2 ^ n : Nat) : Int)) → l.sum ≤ 1024 * (l.length : Int)
  | [], _ => by simp
  | a :: l, h => by
    have := sum_bound_s hn l (fun x hx => h x (List.mem_cons_of_mem _ hx))
    have h1 := h a List.mem_cons_self
    have h2 : 2 ^ n ≤ 2 ^ 10 := Nat.pow_le_pow_right (by omega) hn
    simp only [List.sum_cons, List.length_cons]
    omega
theorem heard_fix {n : Nat} {cs : List S59} {l : List Int} (h : HeardOk n cs l) (hc : GoodL n cs) (hf : ∀ c ∈ cs, orI (l.getD c.f0.toNat 0) (l.getD c.f1.toNat 0) = l.getD c.f0.toNat 0) {v i : Nat} (hv : v < n) (hi : i < n) : bitV l v i = true ↔ Reach cs v i := by
  refine ⟨h.sound v i, fun hr => ?_⟩
  -- along the arrows backwards
  have key : ∀ {s t : Nat}, Reach cs s t → ∀ i, bitV l t i = true → bitV l s i = true := by
    intro s t hr
    induction hr with
    | refl => intro i h; exact h
    | step c _ hm ih =>
      intro i hb
      refine ih i ?_
      have e := hf c hm
      unfold bitV
      rw [← e, orI_bit]
      unfold bitV at hb
      rw [hb, Bool.or_true]
  exact key hr i (h.own i hi)

theorem heard_l1 {n : Nat} (hn : n ≤ 10) {cs : List S59} (h : cs.length ≤ 1048576) (hc : GoodL n cs) (b a : Int) {r : List Int} : ∀ (d i : Nat) (l : List Int), i + d = cs.length → SmallP n l →
    Ev (fun k => impl_heard.l0 k cs ((cs.drop i).foldl tellP l) b (wrap64 (a + 1))) r → Ev (fun k => impl_heard.l1 k cs l b a cs (cs.length : Int) (i : Int)) r := by
  intro d
  induction d with
  | zero =>
    intro i l hi hs hr
    refine Ev.step (fun k => ?_) hr
    simp only [impl_heard.l1]
    rw [if_neg (by omega), List.drop_eq_nil_of_le (by omega)]
    rfl
  | succ d ih =>
    intro i l hi hs hr
    have hlt : i < cs.length := by omega
    have hm : isLetterB n (cs.getD i z59).f0 (cs.getD i z59).f1 = true := hc _ (by rw [getD_at _ _ _ hlt]; exact List.getElem_mem hlt)
    obtain ⟨b1, b2, b3, b4⟩ := isLetterB_true hm
    have hl := hs.1
    rw [drop_at cs i z59 hlt, List.foldl_cons] at hr
    have ih' := ih (i + 1) (tellP l (cs.getD i z59)) (by omega) (smallP_tell hs _ hm) hr
    refine Ev.step (fun k => ?_) ih'
    simp only [impl_heard.l1, show rd_T59 cs (i : Int) = cs.getD i z59 from rfl]
    rw [if_pos (by omega), if_pos (by omega), if_pos (by omega), if_pos b3, if_pos (by omega), if_pos b1, if_pos (by omega), w64 (x := (i : Int) + 1) (by omega) (by omega)]
    rw [or_u16 (show 0 ≤ rd l (cs.getD i z59).f1 ∧ rd l (cs.getD i z59).f1 < 1024 from smallP_1024 hs hn _ (by omega)) (show 0 ≤ rd l (cs.getD i z59).f0 ∧ rd l (cs.getD i z59).f0 < 1024 from smallP_1024 hs hn _ (by omega))]
    rfl
theorem heard_l0 {n : Nat} (hn : n ≤ 10) {cs : List S59} (h : cs.length ≤ 1048576) (hc : GoodL n cs) : ∀ (d i : Nat) (l : List Int), i + d = n → SmallP n l →
    Ev (fun k => impl_heard.l0 k cs l (n : Int) (i : Int)) (roundsP cs d l) := by
  intro d
  induction d with
  | zero =>
    intro i l hi hs
    refine ev_step (f := fun _ => some l) (fun k => ?_) (ev_now _)
    simp only [impl_heard.l0]; rw [if_neg (by omega)]
  | succ d ih =>
    intro i l hi hs
    refine Ev.step (fun k => by simp only [impl_heard.l0]; rw [if_pos (by omega)]) ?_
    refine heard_l1 hn h hc _ _ cs.length 0 l (by omega) hs ?_
    rw [w64 (by omega) (by omega)]
    exact ih (i + 1) _ (by omega) (smallP_foldL cs l hs hc)
theorem heard_ev {n : Int} {cs : List S59} (h1 : 1 ≤ n) (h2 : n ≤ 10) (h : cs.length ≤ 1048576) (hc : GoodL n.toNat cs) : Ev (fun k => impl_heard.f k n cs) (heardP n.toNat cs) := by
  unfold impl_heard.f
  refine Ev.bind (first_ev n h1 h2) ?_
  have := heard_l0 (n := n.toNat) (by omega) h hc n.toNat 0 _ (by omega) (smallP_start n.toNat)
  rw [show ((n.toNat : Nat) : Int) = n by omega] at this
  exact this
theorem leHeard_l1 {n : Nat} (hn : n ≤ 10) {cs : List S59} (h : cs.length ≤ 1048576) (hc : GoodL n cs) {r : List Int} : ∀ (d i : Nat) (q : List Int × Bool), i + d = cs.length → SmallP n q.1 →
    Ev (fun k => spec_leHeard.l0 k cs ((cs.drop i).foldl raiseP q).1 ((cs.drop i).foldl raiseP q).2) r → Ev (fun k => spec_leHeard.l1 k cs q.1 q.2 cs (cs.length : Int) (i : Int)) r := by
  intro d
  induction d with
  | zero =>
    intro i q hi hs hr
    refine Ev.step (fun k => ?_) hr
    simp only [spec_leHeard.l1]
    rw [if_neg (by omega), List.drop_eq_nil_of_le (by omega)]
    rfl
  | succ d ih =>
    intro i q hi hs hr
    have hlt : i < cs.length := by omega
    have hm : isLetterB n (cs.getD i z59).f0 (cs.getD i z59).f1 = true := hc _ (by rw [getD_at _ _ _ hlt]; exact List.getElem_mem hlt)
    obtain ⟨b1, b2, b3, b4⟩ := isLetterB_true hm
    have hl := hs.1
    rw [drop_at cs i z59 hlt, List.foldl_cons] at hr
    have hs' : SmallP n (raiseP q (cs.getD i z59)).1 := by
      unfold raiseP
      split
      · exact hs
      · exact smallP_set hs _ _ (orI_lt (smallP_at hs _ (by omega)) (smallP_at hs _ (by omega)))
    have ih' := ih (i + 1) (raiseP q (cs.getD i z59)) (by omega) hs' hr
    refine Ev.step (fun k => ?_) ih'
    simp only [spec_leHeard.l1, show rd_T59 cs (i : Int) = cs.getD i z59 from rfl]
    rw [if_pos (by omega), if_pos (by omega), if_pos (by omega), if_pos b1, if_pos (by omega), if_pos b3, if_pos (by omega), w64 (x := (i : Int) + 1) (by omega) (by omega)]
    rw [or_i64 (show 0 ≤ rd q.1 (cs.getD i z59).f0 ∧ rd q.1 (cs.getD i z59).f0 < 1024 from smallP_1024 hs hn _ (by omega)) (show 0 ≤ rd q.1 (cs.getD i z59).f1 ∧ rd q.1 (cs.getD i z59).f1 < 1024 from smallP_1024 hs hn _ (by omega))]
    by_cases e : orI (q.1.getD (cs.getD i z59).f0.toNat 0) (q.1.getD (cs.getD i z59).f1.toNat 0) = q.1.getD (cs.getD i z59).f0.toNat 0
    · have er : raiseP q (cs.getD i z59) = q := by unfold raiseP; rw [if_pos e]
      rw [er, if_pos (show orI (rd q.1 (cs.getD i z59).f0) (rd q.1 (cs.getD i z59).f1) = rd q.1 (cs.getD i z59).f0 from e)]
      rfl
    · have er : raiseP q (cs.getD i z59) = (q.1.set (cs.getD i z59).f0.toNat (orI (q.1.getD (cs.getD i z59).f0.toNat 0) (q.1.getD (cs.getD i z59).f1.toNat 0)), true) := by unfold raiseP; rw [if_neg e]
      rw [er, if_neg (show ¬ orI (rd q.1 (cs.getD i z59).f0) (rd q.1 (cs.getD i z59).f1) = rd q.1 (cs.getD i z59).f0 from e)]
      rfl
theorem leHeard_l0 {n : Nat} (hn : n ≤ 10) {cs : List S59} (h : cs.length ≤ 1048576) (hc : GoodL n cs) : ∀ (d : Nat) (l : List Int), HeardOk n cs l → 10241 - l.sum ≤ (d : Int) →
    ∃ r, HeardOk n cs r ∧ (∀ c ∈ cs, orI (r.getD c.f0.toNat 0) (r.getD c.f1.toNat 0) = r.getD c.f0.toNat 0) ∧ Ev (fun k => spec_leHeard.l0 k cs l true) r := by
  intro d
  induction d with
  | zero =>
    intro l hl hd
    exfalso
    have := sum_bound_s hn l hl.small.2
    rw [hl.small.1] at this
    omega
  | succ d ih =>
    intro l hl hd
    have hq := raises_ok (n := n) (cs := cs) cs (l, false) hl hc (fun _ h => h)
    obtain ⟨i1, i2, i3, i4⟩ := raises_sum (n := n) cs (l, false) hl.small hc
    have st : ∀ r, Ev (fun k => spec_leHeard.l0 k cs (cs.foldl raiseP (l, false)).1 (cs.foldl raiseP (l, false)).2) r → Ev (fun k => spec_leHeard.l0 k cs l true) r := fun r hr => by
      refine Ev.step (fun k => by simp only [spec_leHeard.l0, if_true] <;> exact rfl) ?_
      exact leHeard_l1 hn h hc cs.length 0 (l, false) (by omega) hl.small hr
    cases hb : (cs.foldl raiseP (l, false)).2 with
    | false =>
      have i5 := i4 hb
      refine ⟨l, hl, i5.2, st l ?_⟩
      rw [hb, i5.1]
      refine ev_step (f := fun _ => some l) (fun k => ?_) (ev_now _)
      simp only [spec_leHeard.l0, Bool.false_eq_true, if_false]
    | true =>
      have i6 := i3 hb rfl
      obtain ⟨r, r1, r2, r3⟩ := ih _ hq (by simp only at i6; omega)
      exact ⟨r, r1, r2, st r (by rw [hb]; exact r3)⟩
theorem leHeard_ev {n : Int} {cs : List S59} (h1 : 1 ≤ n) (h2 : n ≤ 10) (h : cs.length ≤ 1048576) (hc : GoodL n.toNat cs) :
    ∃ r, SmallP n.toNat r ∧ (∀ v i, v < n.toNat → i < n.toNat → (bitV r v i = true ↔ Reach cs v i)) ∧ Ev (fun k => spec_leHeard.f k n cs) r := by
  have h0 : HeardOk n.toNat cs (startP n.toNat) := by
    refine ⟨smallP_start _, fun v i hb => ?_, fun v hv => by rw [bitV_start _ _ _ hv]; simp⟩
    by_cases hvn : v < n.toNat
    · rw [bitV_start _ v i hvn] at hb
      have : v = i := by simpa using hb
      subst this; exact Reach.refl
    · exfalso
      unfold bitV at hb
      rw [List.getD_eq_getElem?_getD, List.getElem?_eq_none (by rw [(smallP_start n.toNat).1]; omega)] at hb
      simp at hb
  obtain ⟨r, r1, r2, r3⟩ := leHeard_l0 (n := n.toNat) (by omega) h hc (10241 - (startP n.toNat).sum).toNat (startP n.toNat) h0 (by omega)
  refine ⟨r, r1.small, fun v i hv hi => heard_fix r1 hc r2 hv hi, ?_⟩
  unfold spec_leHeard.f
  exact Ev.bind (caStart_ev n h1 h2) r3

def arrowsB (n : Int) (cs : List S59) : Bool := areLettersB n cs && decide (n ≤ 8)
theorem arrowsB_true {n : Int} {cs : List S59} (h : arrowsB n cs = true) : 1 ≤ n ∧ n ≤ 8 ∧ cs.length ≤ 60 ∧ GoodL n.toNat cs := by
  simp only [arrowsB, Bool.and_eq_true, decide_eq_true_eq] at h
  obtain ⟨h1, h2, h3, h4⟩ := areLettersB_true h.1
  exact ⟨h1, h.2, h3, fun c hc => by rw [show ((n.toNat : Nat) : Int) = n by omega]; exact h4 c hc⟩
theorem leArrows_ev (n : Int) (cs : List S59) (h : cs.length ≤ 1048576) : Ev (fun k => spec_leArrows.f k n cs) (arrowsB n cs) := by
  unfold spec_leArrows.f
  refine Ev.bind (leGood_ev n cs h) ?_
  unfold arrowsB
  cases areLettersB n cs with
  | false => simpa using ev_now _
  | true => simpa using ev_now _
theorem areArrows_f (n : Int) (cs : List S59) : impl_areArrows.f n cs = some (arrowsB n cs) := by
  unfold impl_areArrows.f impl_AreLetters.f arrowsB
  by_cases h : n ≤ 8
  · simp [h]
  · simp [h]


def resP (n : Int) (cs : List S59) : Bool × Bool := if arrowsB n cs = true then (allP n.toNat (heardP n.toNat cs), true) else (false, false)
theorem allP_iff {n : Nat} {l : List Int} (h : SmallP n l) : allP n l = true ↔ ∀ v i, v < n → i < n → bitV l v i = true := by
  unfold allP
  rw [List.all_eq_true]
  have h0 : 0 < 2 ^ n := Nat.two_pow_pos n
  constructor
  · intro ha v i hv hi
    have hl : v < l.length := by rw [h.1]; exact hv
    have := ha (l.getD v 0) (by rw [getD_at _ _ _ hl]; exact List.getElem_mem hl)
    rw [beq_iff_eq] at this
    unfold bitV
    rw [this, Int.toNat_natCast, Nat.testBit_two_pow_sub_one]
    simpa using hi
  · intro ha x hx
    obtain ⟨v, hv, rfl⟩ := List.getElem_of_mem hx
    have hv' : v < n := by rw [← h.1]; exact hv
    have hb := h.2 _ hx
    rw [beq_iff_eq]
    have e : (l[v]).toNat = 2 ^ n - 1 := by
      refine Nat.eq_of_testBit_eq (fun i => ?_)
      rw [Nat.testBit_two_pow_sub_one]
      by_cases hi : i < n
      · have := ha v i hv' hi
        unfold bitV at this
        rw [getD_at _ _ _ hv] at this
        rw [this]; simpa using hi
      · have : (l[v]).toNat.testBit i = false := Nat.testBit_lt_two_pow (Nat.lt_of_lt_of_le (m := 2 ^ n) (by omega) (Nat.pow_le_pow_right (by omega) (by omega)))
        rw [this]; simpa using hi
    omega
theorem spec_ev (n : Int) (cs : List S59) (h : cs.length ≤ 1048576) : Ev (fun k => spec_CanAllHear.f k n cs) (resP n cs) := by
  unfold spec_CanAllHear.f resP
  refine Ev.bind (leArrows_ev n cs h) ?_
  cases hg : arrowsB n cs with
  | false => simpa using ev_now _
  | true =>
    obtain ⟨h1, h2, h3, h4⟩ := arrowsB_true hg
    simp only [if_true]
    obtain ⟨r, r1, r2, r3⟩ := leHeard_ev h1 (by omega) h h4
    refine Ev.bind r3 ?_
    refine Ev.bind (caAll_ev (by omega) r1) ?_
    have e : allP n.toNat r = allP n.toNat (heardP n.toNat cs) := by
      rw [Bool.eq_iff_iff, allP_iff r1, allP_iff (heardP_small h4)]
      constructor
      · exact fun hh v i hv hi => (heardP_iff h4 hv hi).2 ((r2 i v hi hv).1 (hh i v hi hv))
      · exact fun hh v i hv hi => (r2 v i hv hi).2 ((heardP_iff h4 hi hv).1 (hh i v hi hv))
    rw [e]
    exact ev_now _
theorem impl_ev (n : Int) (cs : List S59) (h : cs.length ≤ 1048576) : Ev (fun k => impl_CanAllHear.f k n cs) (resP n cs) := by
  unfold impl_CanAllHear.f resP
  rw [areArrows_f]
  simp only [Option.bind_some]
  cases hg : arrowsB n cs with
  | false => simpa using ev_now _
  | true =>
    obtain ⟨h1, h2, h3, h4⟩ := arrowsB_true hg
    simp only [if_true]
    refine Ev.bind (heard_ev h1 (by omega) h h4) ?_
    exact Ev.bind (allKnow_ev (by omega) (heardP_small h4)) (ev_now _)
theorem FnExactCanAllHear : ∀ (a0 : Int) (l1 : (List S61)), (Lit.int .i64 a0).wf = true → l1.length ≤ 9223372036854775807 → ∃ k, laws_FnExactCanAllHear.f k a0 l1 = some true := by
  intro a0 l1 w0 hl1
  apply Ev.rounds
  unfold laws_FnExactCanAllHear.f
  by_cases h1 : l1.length ≤ 1048576
  · simp only [szLetterS_small l1 h1, Option.bind_some]
    have h0 : ¬ (1048576 - (l1.length : Int)) < 0 := by omega
    simp only [if_neg h0]
    have g1 : (toLetters l1).length ≤ 1048576 := by rw [toLetters_length]; exact h1
    refine Ev.bind (toLetterS_ev l1 h1) ?_
    refine Ev.bind (spec_ev a0 (toLetters l1) g1) ?_
    refine Ev.bind (toLetterS_ev l1 h1) ?_
    refine Ev.bind (impl_ev a0 (toLetters l1) g1) ?_
    simp only [bne_self_eq_false, Bool.false_eq_true, if_false, if_true]
    refine Ev.step (fun k => by simp only [laws_FnExactCanAllHear.j0, Bool.false_eq_true, if_false] <;> exact rfl) ?_
    refine Ev.bind (toLetterS_ev l1 h1) ?_
    refine Ev.bind (eqLetterS_ev _ g1) ?_
    simp only [if_true]
    exact ev_now _
  · simp only [szLetterS_great l1 h1 hl1, Option.bind_some]
    exact ev_now _

end Go.Proofs.Ytchdgmamkafcnaa.Pure
