/- The pure side of FnExactKnownByLetters: program and reference agree at every argument. No condition beside what an argument is. -/
import Derived.Test.YtelhjfalkhmhkaaPFnExactKnownByLettersx16
import Derived.Test.YtelhjfalkhmhkaaPBase
import Derived.Lib.BitFns
namespace Go.Proofs.Ytelhjfalkhmhkaa.Pure
open Go.RowKit Go.Proofs.Ytelhjfalkhmhkaa.PFnExactKnownByLetters Go.Proofs.YtelhjfalkhmhkaaW.PrintWords Go.Proofs.YtelhjfalkhmhkaaW.PrintLast Go.Proofs.YtelhjfalkhmhkaaW.PrintMore Go.Proofs.Ytelhjfalkhmhkaa.PB
set_option linter.unusedSimpArgs false
set_option linter.unusedVariables false
/-! letters: read, compared, marked -/
def toLetters (l : List S77) : List S75 := l.map fun c => ⟨c.f0, c.f1⟩
theorem toLetters_length (l : List S77) : (toLetters l).length = l.length := by simp [toLetters]

theorem szLetterS_small (l : List S77) (h : l.length ≤ 1048576) : laws_szLetterS.f l 1048576 = some (1048576 - (l.length : Int)) := by
  unfold laws_szLetterS.f
  rw [w64 (by omega) (by omega), if_neg (by omega)]
theorem szLetterS_great (l : List S77) (h : ¬ l.length ≤ 1048576) (h2 : l.length ≤ 9223372036854775807) : laws_szLetterS.f l 1048576 = some (-1) := by
  unfold laws_szLetterS.f
  rw [w64 (by omega) (by omega), if_pos (by omega)]

theorem toLetterS_l0 (l : List S77) (h : l.length ≤ 1048576) : ∀ (d : Nat) (i : Int) (acc : List S75), 0 ≤ i → i + d = l.length → acc.length = l.length →
    (∀ j : Nat, (j : Int) < i → acc.getD j z75 = (toLetters l).getD j z75) → Ev (fun k => laws_toLetterS.l0 k l acc i) (toLetters l) := by
  intro d
  induction d with
  | zero =>
    intro i acc h0 hi hl hacc
    refine ev_step (f := fun _ => some acc) (fun k => ?_) ?_
    · simp only [laws_toLetterS.l0]; rw [if_neg (by omega)]
    · have : acc = toLetters l := ext_getD z75 (by rw [hl, toLetters_length]) (fun j hj => hacc j (by omega))
      rw [this]; exact ev_now _
  | succ d ih =>
    intro i acc h0 hi hl hacc
    refine ev_step (f := fun k => laws_toLetterS.l0 k l (acc.set i.toNat ⟨(l.getD i.toNat z77).f0, (l.getD i.toNat z77).f1⟩) (i + 1)) (fun k => ?_) ?_
    · simp only [laws_toLetterS.l0, laws_toLetter.f, rd_T77, Option.bind_some]
      rw [if_pos (by omega), if_pos h0, if_pos (by omega), w64 (by omega) (by omega)]
    · refine ih (i + 1) _ (by omega) (by omega) (by simpa using hl) (fun j hj => ?_)
      rw [getD_set _ _ _ _ _ (by omega)]
      split
      · rename_i e
        subst e
        rw [toLetters, getD_map (fun c : S77 => (⟨c.f0, c.f1⟩ : S75)) l i.toNat z77 z75 (by omega)]
      · exact hacc j (by omega)
theorem toLetterS_ev (l : List S77) (h : l.length ≤ 1048576) : Ev (fun k => laws_toLetterS.f k l) (toLetters l) := by
  unfold laws_toLetterS.f
  have h1 : (0 : Int) ≤ (l.length : Int) := by omega
  have h2 : ((l.length : Int)).toNat ≤ 17592186044416 := by omega
  simp only [if_pos h1, if_pos h2]
  exact toLetterS_l0 l h l.length 0 _ (by omega) (by omega) (by simp) (fun j hj => by omega)

theorem eqLetterS_l0 (a : List S75) (h : a.length ≤ 1048576) : ∀ (d : Nat) (i : Int), 0 ≤ i → i + d = a.length → Ev (fun k => laws_eqLetterS.l0 k a a i) true := by
  intro d
  induction d with
  | zero =>
    intro i h0 hi
    refine ev_step (f := fun _ => some true) (fun k => ?_) (ev_now _)
    simp only [laws_eqLetterS.l0]; rw [if_neg (by omega)]
  | succ d ih =>
    intro i h0 hi
    refine ev_step (f := fun k => laws_eqLetterS.l0 k a a (i + 1)) (fun k => ?_) (ih _ (by omega) (by omega))
    simp only [laws_eqLetterS.l0, laws_eqLetter.f, if_true, Option.bind_some]
    rw [if_pos (by omega), if_pos h0, if_pos (by omega), w64 (by omega) (by omega)]
theorem eqLetterS_ev (a : List S75) (h : a.length ≤ 1048576) : Ev (fun k => laws_eqLetterS.f k a a) true := by
  unfold laws_eqLetterS.f
  simp only [if_true]
  exact eqLetterS_l0 a h a.length 0 (by omega) (by omega)

/-! letters: marked -/
def markedL (n : Nat) (m : Int) : List S75 := (List.range n).map fun i : Nat => ⟨m + 2 * (i : Int), m + 2 * (i : Int) + 1⟩
theorem markLetterS_l0 (n : Nat) (m : Int) (hn : n ≤ 1048576) (hm : 0 ≤ m) (hm2 : m ≤ 1099511627776) : ∀ (d : Nat) (i : Int) (acc : List S75), 0 ≤ i → i + d = n → acc.length = n →
    (∀ j : Nat, (j : Int) < i → acc.getD j z75 = (markedL n m).getD j z75) → Ev (fun k => laws_markLetterS.l0 k acc (m + 2 * i) i) (m + 2 * n, markedL n m) := by
  intro d
  induction d with
  | zero =>
    intro i acc h0 hi hl hacc
    refine ev_step (f := fun _ => some (m + 2 * i, acc)) (fun k => ?_) ?_
    · simp only [laws_markLetterS.l0]; rw [if_neg (by omega)]
    · have e : acc = markedL n m := ext_getD z75 (by rw [hl]; simp [markedL]) (fun j hj => hacc j (by omega))
      rw [e, show m + 2 * i = m + 2 * n by omega]; exact ev_now _
  | succ d ih =>
    intro i acc h0 hi hl hacc
    refine ev_step (f := fun k => laws_markLetterS.l0 k (acc.set i.toNat ⟨m + 2 * i, m + 2 * i + 1⟩) (m + 2 * (i + 1)) (i + 1)) (fun k => ?_) ?_
    · have hi' : i.toNat < acc.length := by omega
      simp only [laws_markLetterS.l0, Option.bind_some, rd_T75]
      rw [if_pos (by omega), if_pos h0, w64 (by omega) (by omega), w64 (by omega) (by omega), w64 (by omega) (by omega), show m + 2 * i + 1 + 1 = m + 2 * (i + 1) by omega, List.set_set, getD_set _ _ _ _ _ hi']
      simp
    · refine ih (i + 1) _ (by omega) (by omega) (by simpa using hl) (fun j hj => ?_)
      rw [getD_set _ _ _ _ _ (by omega)]
      split
      · rename_i e
        subst e
        rw [markedL, getD_range_map _ _ _ _ (by omega), show ((i.toNat : Nat) : Int) = i by omega]
      · exact hacc j (by omega)
theorem markLetterS_ev (l : List S75) (m : Int) (hn : l.length ≤ 1048576) (hm : 0 ≤ m) (hm2 : m ≤ 1099511627776) : Ev (fun k => laws_markLetterS.f k l m) (m + 2 * (l.length : Int), markedL l.length m) := by
  unfold laws_markLetterS.f
  have := markLetterS_l0 l.length m hn hm hm2 l.length 0 l (by omega) (by omega) rfl (fun j hj => by omega)
  simpa using this

/-! lists of numbers: compared, marked -/
theorem eqIntS_l0 (a : List Int) (h : a.length ≤ 1048576) : ∀ (d : Nat) (i : Int), 0 ≤ i → i + d = a.length → Ev (fun k => laws_eqIntS.l0 k a a i) true := by
  intro d
  induction d with
  | zero =>
    intro i h0 hi
    refine ev_step (f := fun _ => some true) (fun k => ?_) (ev_now _)
    simp only [laws_eqIntS.l0]; rw [if_neg (by omega)]
  | succ d ih =>
    intro i h0 hi
    refine ev_step (f := fun k => laws_eqIntS.l0 k a a (i + 1)) (fun k => ?_) (ih _ (by omega) (by omega))
    simp only [laws_eqIntS.l0, if_true]
    rw [if_pos (by omega), if_pos h0, if_pos (by omega), w64 (by omega) (by omega)]
theorem eqIntS_ev (a : List Int) (h : a.length ≤ 1048576) : Ev (fun k => laws_eqIntS.f k a a) true := by
  unfold laws_eqIntS.f
  simp only [if_true]
  exact eqIntS_l0 a h a.length 0 (by omega) (by omega)
def markedI (n : Nat) (m : Int) : List Int := (List.range n).map fun i : Nat => m + (i : Int)
theorem markIntS_l0 (n : Nat) (m : Int) (hn : n ≤ 1048576) (hm : 0 ≤ m) (hm2 : m ≤ 1099511627776) : ∀ (d : Nat) (i : Int) (acc : List Int), 0 ≤ i → i + d = n → acc.length = n →
    (∀ j : Nat, (j : Int) < i → acc.getD j 0 = (markedI n m).getD j 0) → Ev (fun k => laws_markIntS.l0 k acc (m + i) i) (m + n, markedI n m) := by
  intro d
  induction d with
  | zero =>
    intro i acc h0 hi hl hacc
    refine ev_step (f := fun _ => some (m + i, acc)) (fun k => ?_) ?_
    · simp only [laws_markIntS.l0]; rw [if_neg (by omega)]
    · have e : acc = markedI n m := ext_getD 0 (by rw [hl]; simp [markedI]) (fun j hj => hacc j (by omega))
      rw [e, show m + i = m + n by omega]; exact ev_now _
  | succ d ih =>
    intro i acc h0 hi hl hacc
    refine ev_step (f := fun k => laws_markIntS.l0 k (acc.set i.toNat (m + i)) (m + (i + 1)) (i + 1)) (fun k => ?_) ?_
    · simp only [laws_markIntS.l0]
      rw [if_pos (by omega), if_pos h0, w64 (by omega) (by omega), w64 (by omega) (by omega), show m + i + 1 = m + (i + 1) by omega]
    · refine ih (i + 1) _ (by omega) (by omega) (by simpa using hl) (fun j hj => ?_)
      rw [getD_set _ _ _ _ _ (by omega)]
      split
      · rename_i e
        subst e
        rw [markedI, getD_range_map _ _ _ _ (by omega)]
        omega
      · exact hacc j (by omega)
theorem markIntS_ev (l : List Int) (m : Int) (hn : l.length ≤ 1048576) (hm : 0 ≤ m) (hm2 : m ≤ 1099511627776) : Ev (fun k => laws_markIntS.f k l m) (m + (l.length : Int), markedI l.length m) := by
  unfold laws_markIntS.f
  have := markIntS_l0 l.length m hn hm hm2 l.length 0 l (by omega) (by omega) rfl (fun j hj => by omega)
  simpa using this
theorem heldIntS_l0 (n : Nat) (m : Int) (hn : n ≤ 1048576) (hm : 0 ≤ m) (hm2 : m ≤ 1099511627776) : ∀ (d : Nat) (i : Int), 0 ≤ i → i + d = n → Ev (fun k => laws_heldIntS.l0 k (markedI n m) (m + i) i) (m + n) := by
  intro d
  have hl : (markedI n m).length = n := by simp [markedI]
  induction d with
  | zero =>
    intro i h0 hi
    refine ev_step (f := fun _ => some (m + i)) (fun k => ?_) ?_
    · simp only [laws_heldIntS.l0]; rw [if_neg (by omega)]
    · rw [show m + i = m + n by omega]; exact ev_now _
  | succ d ih =>
    intro i h0 hi
    refine ev_step (f := fun k => laws_heldIntS.l0 k (markedI n m) (m + (i + 1)) (i + 1)) (fun k => ?_) (ih _ (by omega) (by omega))
    have e : rd (markedI n m) i = m + i := by
      show (markedI n m).getD i.toNat 0 = _
      rw [markedI, getD_range_map _ _ _ _ (by omega)]; omega
    simp only [laws_heldIntS.l0, e, if_true]
    rw [if_pos (by omega), if_pos h0, w64 (by omega) (by omega), w64 (by omega) (by omega), show m + i + 1 = m + (i + 1) by omega]
theorem heldIntS_ev (n : Nat) (m : Int) (hn : n ≤ 1048576) (hm : 0 ≤ m) (hm2 : m ≤ 1099511627776) : Ev (fun k => laws_heldIntS.f k (markedI n m) m) (m + (n : Int)) := by
  unfold laws_heldIntS.f
  have := heldIntS_l0 n m hn hm hm2 n 0 (by omega) (by omega)
  simpa using this

/-! spec.leGood -/
theorem caFriends_f (n : Int) : spec_caFriends.f n = some (decide (1 ≤ n) && decide (n ≤ 10)) := by
  unfold spec_caFriends.f spec_l1In.f
  by_cases h1 : 1 ≤ n <;> by_cases h2 : n ≤ 10 <;> simp [h1, h2]
theorem leLetter_f (n a b : Int) (h1 : 1 ≤ n) (h2 : n ≤ 10) : spec_leLetter.f n a b = some (isLetterB n a b) := by
  unfold spec_leLetter.f spec_l1In.f isLetterB
  rw [w64 (by omega) (by omega)]
  have e : ∀ x : Int, decide (x ≤ n - 1) = decide (x < n) := fun x => by rw [decide_eq_decide]; omega
  by_cases g1 : 0 ≤ a
  · by_cases g2 : a < n
    · have g2' : a ≤ n - 1 := by omega
      by_cases g3 : 0 ≤ b
      · by_cases g4 : b < n
        · have g4' : b ≤ n - 1 := by omega
          simp [g1, g2, g2', g3, g4, g4', bne]
        · have g4' : ¬ b ≤ n - 1 := by omega
          simp [g1, g2, g2', g3, g4, g4']
      · simp [g1, g2, g2', g3]
    · have g2' : ¬ a ≤ n - 1 := by omega
      simp [g1, g2, g2']
  · simp [g1]
theorem leGood_l0 (n : Int) (l : List S75) (h : l.length ≤ 1048576) (h1 : 1 ≤ n) (h2 : n ≤ 10) : ∀ (d : Nat) (i : Int), 0 ≤ i → i + d = l.length →
    Ev (fun k => spec_leGood.l0 k n l (l.length : Int) i) ((l.drop i.toNat).all fun c => isLetterB n c.f0 c.f1) := by
  intro d
  induction d with
  | zero =>
    intro i h0 hi
    refine ev_step (f := fun _ => some true) (fun k => ?_) ?_
    · simp only [spec_leGood.l0]; rw [if_neg (by omega)]
    · rw [List.drop_eq_nil_of_le (by omega)]; exact ev_now _
  | succ d ih =>
    intro i h0 hi
    have hd := drop_at l i.toNat z75 (by omega)
    cases hq : isLetterB n (l.getD i.toNat z75).f0 (l.getD i.toNat z75).f1 with
    | true =>
      refine ev_step (f := fun k => spec_leGood.l0 k n l (l.length : Int) (i + 1)) (fun k => ?_) ?_
      · simp only [spec_leGood.l0, rd_T75, leLetter_f n _ _ h1 h2, Option.bind_some, hq, if_true]
        rw [if_pos (by omega), if_pos h0, if_pos (by omega), w64 (by omega) (by omega)]
      · have := ih (i + 1) (by omega) (by omega)
        rw [hd, List.all_cons, hq, Bool.true_and]
        rwa [show (i + 1).toNat = i.toNat + 1 by omega] at this
    | false =>
      refine ev_step (f := fun _ => some false) (fun k => ?_) ?_
      · simp only [spec_leGood.l0, rd_T75, leLetter_f n _ _ h1 h2, Option.bind_some, hq]
        rw [if_pos (by omega), if_pos h0, if_pos (by omega), if_neg (by simp)]
      · rw [hd, List.all_cons, hq, Bool.false_and]; exact ev_now _
theorem leGood_ev (n : Int) (l : List S75) (h : l.length ≤ 1048576) : Ev (fun k => spec_leGood.f k n l) (areLettersB n l) := by
  unfold spec_leGood.f
  simp only [caFriends_f, Option.bind_some]
  by_cases h1 : 1 ≤ n ∧ n ≤ 10
  · obtain ⟨h1, h2⟩ := h1
    by_cases h3 : l.length ≤ 60
    · have e : areLettersB n l = l.all fun c => isLetterB n c.f0 c.f1 := by simp [areLettersB, h1, h2, h3]
      rw [e]
      have e2 : decide ((l.length : Int) > 60) = false := by rw [decide_eq_false_iff_not]; omega
      simp only [h1, h2, decide_true, Bool.and_self, if_true, e2]
      refine ev_step (f := fun k => spec_leGood.l0 k n l (l.length : Int) 0) (fun k => by simp [spec_leGood.j0]) ?_
      simpa using leGood_l0 n l h h1 h2 l.length 0 (by omega) (by omega)
    · have e : areLettersB n l = false := by simp [areLettersB, h3]
      rw [e]
      have e2 : decide ((l.length : Int) > 60) = true := by rw [decide_eq_true_eq]; omega
      simp only [h1, h2, decide_true, Bool.and_self, if_true, e2]
      exact ev_step (f := fun _ => some false) (fun k => by simp [spec_leGood.j0]) (ev_now _)
  · have e : areLettersB n l = false := by rw [Bool.eq_false_iff]; intro hh; simp [areLettersB] at hh; exact h1 ⟨hh.1, hh.2.1⟩
    have e1 : (decide (1 ≤ n) && decide (n ≤ 10)) = false := by rw [Bool.eq_false_iff]; simpa using h1
    rw [e]
    simp only [e1]
    exact ev_step (f := fun _ => some false) (fun k => by simp [spec_leGood.j0]) (ev_now _)
theorem areLettersB_true {n : Int} {cs : List S75} (h : areLettersB n cs = true) : 1 ≤ n ∧ n ≤ 10 ∧ cs.length ≤ 60 ∧ ∀ c ∈ cs, isLetterB n c.f0 c.f1 = true := by
  simp [areLettersB] at h
  exact h

/-! news: what friends know, as numbers below 2^n -/
def orI (a b : Int) : Int := ((a.toNat ||| b.toNat : Nat) : Int)
def startP (n : Nat) : List Int := (List.range n).map fun i => ((2 ^ i : Nat) : Int)
def SmallP (n : Nat) (l : List Int) : Prop := l.length = n ∧ ∀ x ∈ l, 0 ≤ x ∧ x < ((2 ^ n : Nat) : Int)
theorem smallP_at {n : Nat} {l : List Int} (h : SmallP n l) (i : Nat) (hi : i < n) : 0 ≤ l.getD i 0 ∧ l.getD i 0 < ((2 ^ n : Nat) : Int) := by
  have hl : i < l.length := by rw [h.1]; exact hi
  rw [getD_at l i 0 hl]
  exact h.2 _ (List.getElem_mem hl)
theorem smallP_1024 {n : Nat} {l : List Int} (h : SmallP n l) (hn : n ≤ 10) (i : Nat) (hi : i < n) : 0 ≤ l.getD i 0 ∧ l.getD i 0 < 1024 := by
  have h1 := smallP_at h i hi
  have h2 : 2 ^ n ≤ 2 ^ 10 := Nat.pow_le_pow_right (by omega) hn
  omega
theorem smallP_start (n : Nat) : SmallP n (startP n) := by
  refine ⟨by simp [startP], fun x hx => ?_⟩
  obtain ⟨i, hi, rfl⟩ := List.mem_map.1 hx
  have : i < n := by simpa using hi
  have h2 : 2 ^ i < 2 ^ n := Nat.pow_lt_pow_right (by omega) this
  have h3 : 0 < 2 ^ i := Nat.two_pow_pos i
  omega
theorem orI_lt {n : Nat} {a b : Int} (ha : 0 ≤ a ∧ a < ((2 ^ n : Nat) : Int)) (hb : 0 ≤ b ∧ b < ((2 ^ n : Nat) : Int)) : 0 ≤ orI a b ∧ orI a b < ((2 ^ n : Nat) : Int) := by
  have h := Nat.or_lt_two_pow (x := a.toNat) (y := b.toNat) (n := n) (by omega) (by omega)
  unfold orI
  omega
theorem smallP_set {n : Nat} {l : List Int} (h : SmallP n l) (i : Nat) (x : Int) (hx : 0 ≤ x ∧ x < ((2 ^ n : Nat) : Int)) : SmallP n (l.set i x) := by
  refine ⟨by rw [List.length_set, h.1], fun y hy => ?_⟩
  rcases List.mem_or_eq_of_mem_set hy with h1 | h1
  · exact h.2 y h1
  · rw [h1]; exact hx
theorem or_i64 {a b : Int} (ha : 0 ≤ a ∧ a < 1024) (hb : 0 ≤ b ∧ b < 1024) : Go.bits .or .i64 a b = orI a b := by
  have h := (bits_nat .i64 10 (by decide) (fun n h0 h1 => by rw [IntKind.wrap_i64]; omega) a.toNat b.toNat (by omega) (by omega)).2
  rw [show ((a.toNat : Nat) : Int) = a by omega, show ((b.toNat : Nat) : Int) = b by omega] at h
  exact h
theorem or_u16 {a b : Int} (ha : 0 ≤ a ∧ a < 1024) (hb : 0 ≤ b ∧ b < 1024) : Go.bits .or .u16 a b = orI a b := by
  have h := (bits_nat .u16 10 (by decide) (fun n h0 h1 => by simp [IntKind.wrap, IntKind.bits, IntKind.signed]; omega) a.toNat b.toNat (by omega) (by omega)).2
  rw [show ((a.toNat : Nat) : Int) = a by omega, show ((b.toNat : Nat) : Int) = b by omega] at h
  exact h
theorem shl_i64_all : ∀ i : Fin 11, shl .i64 1 (i.val : Int) = ((2 ^ i.val : Nat) : Int) := by decide +kernel
theorem shl_u16_all : ∀ i : Fin 11, shl .u16 1 (i.val : Int) = ((2 ^ i.val : Nat) : Int) := by decide +kernel
theorem shl_i64_at (i : Int) (h0 : 0 ≤ i) (h1 : i ≤ 10) : shl .i64 1 i = ((2 ^ i.toNat : Nat) : Int) := by
  have := shl_i64_all ⟨i.toNat, by omega⟩
  simp only [Int.toNat_of_nonneg h0] at this
  exact this
theorem shl_u16_at (i : Int) (h0 : 0 ≤ i) (h1 : i ≤ 10) : shl .u16 1 i = ((2 ^ i.toNat : Nat) : Int) := by
  have := shl_u16_all ⟨i.toNat, by omega⟩
  simp only [Int.toNat_of_nonneg h0] at this
  exact this
theorem startP_take (n i : Nat) (h : i < n) : (startP n).take (i + 1) = (startP n).take i ++ [((2 ^ i : Nat) : Int)] := by
  rw [take_at (startP n) i 0 (by simpa [startP] using h), startP, getD_range_map _ _ _ _ h]
theorem caStart_l0 (n : Nat) (hn : n ≤ 10) : ∀ (d : Nat) (i : Int), 0 ≤ i → i + d = n → Ev (fun k => spec_caStart.l0 k (n : Int) ((startP n).take i.toNat) i) (startP n) := by
  intro d
  have hl : (startP n).length = n := by simp [startP]
  induction d with
  | zero =>
    intro i h0 hi
    refine ev_step (f := fun _ => some ((startP n).take i.toNat)) (fun k => ?_) ?_
    · simp only [spec_caStart.l0]; rw [if_neg (by omega)]
    · rw [List.take_of_length_le (by omega)]; exact ev_now _
  | succ d ih =>
    intro i h0 hi
    refine ev_step (f := fun k => spec_caStart.l0 k (n : Int) ((startP n).take (i + 1).toNat) (i + 1)) (fun k => ?_) (ih _ (by omega) (by omega))
    simp only [spec_caStart.l0]
    rw [if_pos (by omega), if_pos h0, if_pos (by rw [List.length_take]; omega), w64 (by omega) (by omega), shl_i64_at i h0 (by omega), ← startP_take n i.toNat (by omega), show (i + 1).toNat = i.toNat + 1 by omega]
theorem caStart_ev (n : Int) (h1 : 1 ≤ n) (h2 : n ≤ 10) : Ev (fun k => spec_caStart.f k n) (startP n.toNat) := by
  have := caStart_l0 n.toNat (by omega) n.toNat 0 (by omega) (by omega)
  unfold spec_caStart.f
  simpa [show ((n.toNat : Nat) : Int) = n by omega] using this
theorem first_l0 (n : Nat) (hn : n ≤ 10) : ∀ (d : Nat) (i : Int), 0 ≤ i → i + d = n → Ev (fun k => impl_first.l0 k ((startP n).take i.toNat) (n : Int) i) (startP n) := by
  intro d
  have hl : (startP n).length = n := by simp [startP]
  induction d with
  | zero =>
    intro i h0 hi
    refine ev_step (f := fun _ => some ((startP n).take i.toNat)) (fun k => ?_) ?_
    · simp only [impl_first.l0]; rw [if_neg (by omega)]
    · rw [List.take_of_length_le (by omega)]; exact ev_now _
  | succ d ih =>
    intro i h0 hi
    refine ev_step (f := fun k => impl_first.l0 k ((startP n).take (i + 1).toNat) (n : Int) (i + 1)) (fun k => ?_) (ih _ (by omega) (by omega))
    simp only [impl_first.l0]
    rw [if_pos (by omega), if_pos h0, if_pos (by rw [List.length_take]; omega), w64 (by omega) (by omega), shl_u16_at i h0 (by omega), ← startP_take n i.toNat (by omega), show (i + 1).toNat = i.toNat + 1 by omega]
theorem first_ev (n : Int) (h1 : 1 ≤ n) (h2 : n ≤ 10) : Ev (fun k => impl_first.f k n) (startP n.toNat) := by
  have := first_l0 n.toNat (by omega) n.toNat 0 (by omega) (by omega)
  unfold impl_first.f
  simpa [show ((n.toNat : Nat) : Int) = n by omega] using this

/-! news behind letters -/
def tellP (l : List Int) (c : S75) : List Int := l.set c.f1.toNat (orI (l.getD c.f1.toNat 0) (l.getD c.f0.toNat 0))
def playL (n : Nat) (cs : List S75) : List Int := cs.foldl tellP (startP n)
theorem isLetterB_true {n a b : Int} (h : isLetterB n a b = true) : 0 ≤ a ∧ a < n ∧ 0 ≤ b ∧ b < n := by
  simp [isLetterB] at h
  omega
theorem smallP_tell {n : Nat} {l : List Int} (h : SmallP n l) (c : S75) (hc : isLetterB n c.f0 c.f1 = true) : SmallP n (tellP l c) := by
  obtain ⟨h1, h2, h3, h4⟩ := isLetterB_true hc
  exact smallP_set h _ _ (orI_lt (smallP_at h c.f1.toNat (by omega)) (smallP_at h c.f0.toNat (by omega)))
theorem smallP_foldL {n : Nat} : ∀ (cs : List S75) (l : List Int), SmallP n l → (∀ c ∈ cs, isLetterB n c.f0 c.f1 = true) → SmallP n (cs.foldl tellP l)
  | [], _, h, _ => h
  | c :: cs, _, h, hc => smallP_foldL cs _ (smallP_tell h c (hc c (List.mem_cons_self))) (fun d hd => hc d (List.mem_cons_of_mem _ hd))
theorem smallP_playL {n : Nat} (cs : List S75) (hc : ∀ c ∈ cs, isLetterB n c.f0 c.f1 = true) : SmallP n (playL n cs) := smallP_foldL cs _ (smallP_start n) hc
theorem lePlay_l0 {n : Nat} (hn : n ≤ 10) (cs : List S75) (h : cs.length ≤ 1048576) (hc : ∀ c ∈ cs, isLetterB n c.f0 c.f1 = true) : ∀ (d : Nat) (i : Int) (l : List Int), 0 ≤ i → i + d = cs.length → SmallP n l →
    Ev (fun k => spec_lePlay.l0 k l cs (cs.length : Int) i) ((cs.drop i.toNat).foldl tellP l) := by
  intro d
  induction d with
  | zero =>
    intro i l h0 hi hs
    refine ev_step (f := fun _ => some l) (fun k => ?_) ?_
    · simp only [spec_lePlay.l0]; rw [if_neg (by omega)]
    · rw [List.drop_eq_nil_of_le (by omega)]; exact ev_now _
  | succ d ih =>
    intro i l h0 hi hs
    have hl := hs.1
    have hlt : i.toNat < cs.length := by omega
    have hd := drop_at cs i.toNat z75 hlt
    have hm : isLetterB n (cs.getD i.toNat z75).f0 (cs.getD i.toNat z75).f1 = true := hc _ (by rw [getD_at _ _ _ hlt]; exact List.getElem_mem hlt)
    obtain ⟨b1, b2, b3, b4⟩ := isLetterB_true hm
    refine ev_step (f := fun k => spec_lePlay.l0 k (tellP l (cs.getD i.toNat z75)) cs (cs.length : Int) (i + 1)) (fun k => ?_) ?_
    · simp only [spec_lePlay.l0, show rd_T75 cs i = cs.getD i.toNat z75 from rfl]
      rw [if_pos (by omega), if_pos h0, if_pos (by omega), if_pos b3, if_pos (by omega), if_pos b1, if_pos (by omega), w64 (by omega) (by omega)]
      rw [or_i64 (show 0 ≤ rd l (cs.getD i.toNat z75).f1 ∧ rd l (cs.getD i.toNat z75).f1 < 1024 from smallP_1024 hs hn _ (by omega)) (show 0 ≤ rd l (cs.getD i.toNat z75).f0 ∧ rd l (cs.getD i.toNat z75).f0 < 1024 from smallP_1024 hs hn _ (by omega))]
      rfl
    · rw [hd, List.foldl_cons]
      have := ih (i + 1) _ (by omega) (by omega) (smallP_tell hs _ hm)
      rwa [show (i + 1).toNat = i.toNat + 1 by omega] at this
theorem lePlay_ev {n : Int} (cs : List S75) (h1 : 1 ≤ n) (h2 : n ≤ 10) (h : cs.length ≤ 1048576) (hc : ∀ c ∈ cs, isLetterB n c.f0 c.f1 = true) : Ev (fun k => spec_lePlay.f k n cs) (playL n.toNat cs) := by
  unfold spec_lePlay.f
  refine Ev.bind (caStart_ev n h1 h2) ?_
  have e : ((n.toNat : Nat) : Int) = n := by omega
  have := lePlay_l0 (n := n.toNat) (by omega) cs h (fun c hm => by rw [e]; exact hc c hm) cs.length 0 _ (by omega) (by omega) (smallP_start n.toNat)
  simpa [playL] using this
theorem byLetters_l0 {n : Nat} (hn : n ≤ 10) (cs : List S75) (h : cs.length ≤ 1048576) (hc : ∀ c ∈ cs, isLetterB n c.f0 c.f1 = true) : ∀ (d : Nat) (i : Int) (l : List Int), 0 ≤ i → i + d = cs.length → SmallP n l →
    Ev (fun k => impl_byLetters.l0 k l cs (cs.length : Int) i) ((cs.drop i.toNat).foldl tellP l) := by
  intro d
  induction d with
  | zero =>
    intro i l h0 hi hs
    refine ev_step (f := fun _ => some l) (fun k => ?_) ?_
    · simp only [impl_byLetters.l0]; rw [if_neg (by omega)]
    · rw [List.drop_eq_nil_of_le (by omega)]; exact ev_now _
  | succ d ih =>
    intro i l h0 hi hs
    have hl := hs.1
    have hlt : i.toNat < cs.length := by omega
    have hd := drop_at cs i.toNat z75 hlt
    have hm : isLetterB n (cs.getD i.toNat z75).f0 (cs.getD i.toNat z75).f1 = true := hc _ (by rw [getD_at _ _ _ hlt]; exact List.getElem_mem hlt)
    obtain ⟨b1, b2, b3, b4⟩ := isLetterB_true hm
    refine ev_step (f := fun k => impl_byLetters.l0 k (tellP l (cs.getD i.toNat z75)) cs (cs.length : Int) (i + 1)) (fun k => ?_) ?_
    · simp only [impl_byLetters.l0, show rd_T75 cs i = cs.getD i.toNat z75 from rfl]
      rw [if_pos (by omega), if_pos h0, if_pos (by omega), if_pos b3, if_pos (by omega), if_pos b1, if_pos (by omega), w64 (by omega) (by omega)]
      rw [or_u16 (show 0 ≤ rd l (cs.getD i.toNat z75).f1 ∧ rd l (cs.getD i.toNat z75).f1 < 1024 from smallP_1024 hs hn _ (by omega)) (show 0 ≤ rd l (cs.getD i.toNat z75).f0 ∧ rd l (cs.getD i.toNat z75).f0 < 1024 from smallP_1024 hs hn _ (by omega))]
      rfl
    · rw [hd, List.foldl_cons]
      have := ih (i + 1) _ (by omega) (by omega) (smallP_tell hs _ hm)
      rwa [show (i + 1).toNat = i.toNat + 1 by omega] at this
theorem byLetters_ev {n : Int} (cs : List S75) (h1 : 1 ≤ n) (h2 : n ≤ 10) (h : cs.length ≤ 1048576) (hc : ∀ c ∈ cs, isLetterB n c.f0 c.f1 = true) : Ev (fun k => impl_byLetters.f k n cs) (playL n.toNat cs) := by
  unfold impl_byLetters.f
  refine Ev.bind (first_ev n h1 h2) ?_
  have e : ((n.toNat : Nat) : Int) = n := by omega
  have := byLetters_l0 (n := n.toNat) (by omega) cs h (fun c hm => by rw [e]; exact hc c hm) cs.length 0 _ (by omega) (by omega) (smallP_start n.toNat)
  simpa [playL] using this
theorem smallP_ofL {n : Int} {cs : List S75} (h1 : 1 ≤ n) (h4 : ∀ c ∈ cs, isLetterB n c.f0 c.f1 = true) : SmallP n.toNat (playL n.toNat cs) := smallP_playL cs (fun c hc => by rw [show ((n.toNat : Nat) : Int) = n by omega]; exact h4 c hc)

/-! counted by the reference -/
theorem caBits_all : ∀ x : Fin 1024, spec_caBits.f 12 (x.val : Int) = some (((List.range 16).filter fun i => x.val.testBit i).map Int.ofNat) := by decide +kernel
def bitsP (x : Int) : List Int := ((List.range 16).filter fun i => x.toNat.testBit i).map Int.ofNat
theorem caBits_ev {x : Int} (hx : 0 ≤ x ∧ x < 1024) : Ev (fun k => spec_caBits.f k x) (bitsP x) := by
  have h := caBits_all ⟨x.toNat, by omega⟩
  simp only [Int.toNat_of_nonneg hx.1] at h
  exact Ev.of (spec_caBits.mono x) h

/-! rows of rows: compared, marked -/
def totI : List (List Int) → Int
  | [] => 0
  | r :: rs => (r.length : Int) + totI rs
def markedRI : List (List Int) → Int → List (List Int)
  | [], _ => []
  | r :: rs, m => markedI r.length m :: markedRI rs (m + (r.length : Int))
def RowsI (l : List (List Int)) : Prop := l.length ≤ 1048576 ∧ ∀ r ∈ l, r.length ≤ 1048576
theorem totI_nonneg : ∀ (l : List (List Int)), 0 ≤ totI l
  | [] => Int.le_refl _
  | r :: rs => by have := totI_nonneg rs; simp only [totI]; omega
theorem totI_le (b : Nat) : ∀ (l : List (List Int)), (∀ r ∈ l, r.length ≤ b) → totI l ≤ (b : Int) * l.length
  | [], _ => by simp [totI]
  | r :: rs, h => by
    have h1 := totI_le b rs (fun x hx => h x (List.mem_cons_of_mem _ hx))
    have h2 := h r (List.mem_cons_self)
    have e : (b : Int) * ((r :: rs).length : Nat) = (b : Int) * (rs.length : Nat) + (b : Int) := by
      rw [List.length_cons, Int.natCast_succ, Int.mul_add, Int.mul_one]
    rw [e]
    simp only [totI]
    omega
theorem eqIntSS_l0 : ∀ (rest done : List (List Int)), done.length + rest.length ≤ 1048576 → (∀ r ∈ rest, r.length ≤ 1048576) →
    Ev (fun k => laws_eqIntSS.l0 k (done ++ rest) (done ++ rest) (done.length : Int)) true
  | [], done, h, _ => by
    refine ev_step (f := fun _ => some true) (fun k => ?_) (ev_now _)
    simp only [laws_eqIntSS.l0]
    rw [if_neg (by simp)]
  | r :: rest, done, h, hr => by
    simp only [List.length_cons] at h
    have e : rd_L3 (done ++ r :: rest) (done.length : Int) = r := by
      show (done ++ r :: rest).getD ((done.length : Int)).toNat [] = r
      rw [Int.toNat_natCast, getD_len]
    refine ev_step (f := fun k => (laws_eqIntS.f k r r).bind fun t => if t = true then laws_eqIntSS.l0 k (done ++ r :: rest) (done ++ r :: rest) ((done.length : Int) + 1) else some false) (fun k => ?_) ?_
    · simp only [laws_eqIntSS.l0, e]
      rw [if_pos (by rw [List.length_append, List.length_cons]; omega), if_pos (by omega), if_pos (by rw [List.length_append, List.length_cons]; omega), w64 (by omega) (by omega)]
    · refine Ev.bind (eqIntS_ev r (hr r (List.mem_cons_self))) ?_
      simp only [if_true]
      have := eqIntSS_l0 rest (done ++ [r]) (by rw [List.length_append, List.length_singleton]; omega) (fun x hx => hr x (List.mem_cons_of_mem _ hx))
      rw [List.append_assoc, List.singleton_append, List.length_append, List.length_singleton] at this
      simpa using this
theorem eqIntSS_ev (a : List (List Int)) (h : RowsI a) : Ev (fun k => laws_eqIntSS.f k a a) true := by
  unfold laws_eqIntSS.f
  simp only [if_true]
  have := eqIntSS_l0 a [] (by simpa using h.1) h.2
  simpa using this
theorem markIntSS_l0 : ∀ (rest done : List (List Int)) (m : Int), done.length + rest.length ≤ 1048576 → (∀ r ∈ rest, r.length ≤ 1048576) → 0 ≤ m → m + totI rest ≤ 1099511627776 →
    Ev (fun k => laws_markIntSS.l0 k (done ++ rest) m (done.length : Int)) (m + totI rest, done ++ markedRI rest m)
  | [], done, m, h, _, _, _ => by
    refine ev_step (f := fun _ => some (m, done ++ [])) (fun k => ?_) ?_
    · simp only [laws_markIntSS.l0]
      rw [if_neg (by simp)]
    · simp only [totI, Int.add_zero, markedRI]; exact ev_now _
  | r :: rest, done, m, h, hr, hm, hb => by
    simp only [List.length_cons] at h
    simp only [totI] at hb
    have hn := totI_nonneg rest
    refine ev_step (f := fun k => (laws_markIntS.f k r m).bind fun t => laws_markIntSS.l0 k ((done ++ r :: rest).set done.length t.2) t.1 ((done.length : Int) + 1)) (fun k => ?_) ?_
    · simp only [laws_markIntSS.l0, Int.toNat_natCast, getD_len]
      rw [if_pos (by rw [List.length_append, List.length_cons]; omega), if_pos (by omega), w64 (by omega) (by omega)]
    · refine Ev.bind (markIntS_ev r m (hr r (List.mem_cons_self)) hm (by omega)) ?_
      have := markIntSS_l0 rest (done ++ [markedI r.length m]) (m + (r.length : Int)) (by rw [List.length_append, List.length_singleton]; omega) (fun x hx => hr x (List.mem_cons_of_mem _ hx)) (by omega) (by omega)
      rw [List.append_assoc, List.singleton_append, List.length_append, List.length_singleton] at this
      simp only [set_len, totI, markedRI]
      rw [List.append_assoc, List.singleton_append, Int.add_assoc] at this
      simpa using this
theorem markIntSS_ev (l : List (List Int)) (m : Int) (h : RowsI l) (hm : 0 ≤ m) (hb : m + totI l ≤ 1099511627776) : Ev (fun k => laws_markIntSS.f k l m) (m + totI l, markedRI l m) := by
  unfold laws_markIntSS.f
  have := markIntSS_l0 l [] m (by simpa using h.1) h.2 hm hb
  simpa using this
theorem heldIntSS_l0 : ∀ (rest done : List (List Int)) (m : Int), done.length + rest.length ≤ 1048576 → (∀ r ∈ rest, r.length ≤ 1048576) → 0 ≤ m → m + totI rest ≤ 1099511627776 →
    Ev (fun k => laws_heldIntSS.l0 k (done ++ markedRI rest m) m (done.length : Int)) (m + totI rest)
  | [], done, m, h, _, _, _ => by
    show Ev (fun k => laws_heldIntSS.l0 k (done ++ []) m (done.length : Int)) (m + totI [])
    refine ev_step (f := fun _ => some m) (fun k => ?_) ?_
    · have hh : ¬ ((done.length : Int) < ((done ++ ([] : List (List Int))).length : Int)) := by simp
      simp only [laws_heldIntSS.l0]
      rw [if_neg hh]
    · simp only [totI, Int.add_zero]; exact ev_now _
  | r :: rest, done, m, h, hr, hm, hb => by
    simp only [List.length_cons] at h
    simp only [totI] at hb
    have hn := totI_nonneg rest
    have e : rd_L3 (done ++ markedI r.length m :: markedRI rest (m + (r.length : Int))) (done.length : Int) = markedI r.length m := by
      show (done ++ markedI r.length m :: markedRI rest (m + (r.length : Int))).getD ((done.length : Int)).toNat [] = _
      rw [Int.toNat_natCast, getD_len]
    show Ev (fun k => laws_heldIntSS.l0 k (done ++ markedI r.length m :: markedRI rest (m + (r.length : Int))) m (done.length : Int)) _
    refine ev_step (f := fun k => (laws_heldIntS.f k (markedI r.length m) m).bind fun t => if t < 0 then some (-1) else laws_heldIntSS.l0 k (done ++ markedI r.length m :: markedRI rest (m + (r.length : Int))) t ((done.length : Int) + 1)) (fun k => ?_) ?_
    · simp only [laws_heldIntSS.l0, e]
      rw [if_pos (by rw [List.length_append, List.length_cons]; omega), if_pos (by omega), w64 (by omega) (by omega)]
    · refine Ev.bind (heldIntS_ev r.length m (hr r (List.mem_cons_self)) hm (by omega)) ?_
      have hp : ¬ m + (r.length : Int) < 0 := by omega
      simp only [if_neg hp]
      have := heldIntSS_l0 rest (done ++ [markedI r.length m]) (m + (r.length : Int)) (by rw [List.length_append, List.length_singleton]; omega) (fun x hx => hr x (List.mem_cons_of_mem _ hx)) (by omega) (by omega)
      rw [List.append_assoc, List.singleton_append, List.length_append, List.length_singleton] at this
      simp only [totI]
      rw [Int.add_assoc] at this
      simpa using this
theorem heldIntSS_ev (l : List (List Int)) (m : Int) (h : RowsI l) (hm : 0 ≤ m) (hb : m + totI l ≤ 1099511627776) : Ev (fun k => laws_heldIntSS.f k (markedRI l m) m) (m + totI l) := by
  unfold laws_heldIntSS.f
  have := heldIntSS_l0 l [] m (by simpa using h.1) h.2 hm hb
  simpa using this
theorem rowsI_tot {l : List (List Int)} (h1 : l.length ≤ 1000) (h2 : ∀ r ∈ l, r.length ≤ 1048576) : RowsI l ∧ 1 + totI l ≤ 1099511627776 := by
  refine ⟨⟨by omega, h2⟩, ?_⟩
  have := totI_le 1048576 l h2
  omega

/-! what friends know, listed -/
theorem listed_all : ∀ x : Fin 1024, impl_listed.f 18 (x.val : Int) = some (((List.range 16).filter fun i => x.val.testBit i).map Int.ofNat) := by decide +kernel
theorem listed_ev {x : Int} (hx : 0 ≤ x ∧ x < 1024) : Ev (fun k => impl_listed.f k x) (bitsP x) := by
  have h := listed_all ⟨x.toNat, by omega⟩
  simp only [Int.toNat_of_nonneg hx.1] at h
  exact Ev.of (impl_listed.mono x) h
def listsP (l : List Int) : List (List Int) := l.map bitsP
theorem listsP_rows {n : Nat} (hn : n ≤ 10) {l : List Int} (h : SmallP n l) : RowsI (listsP l) ∧ 1 + totI (listsP l) ≤ 1099511627776 := by
  refine rowsI_tot (by rw [listsP, List.length_map, h.1]; omega) (fun r hr => ?_)
  obtain ⟨x, _, rfl⟩ := List.mem_map.1 hr
  have := List.length_filter_le (fun i => x.toNat.testBit i) (List.range 16)
  simp [bitsP] at this ⊢
  omega
theorem lists_step (l : List Int) (i : Nat) (h : i < l.length) : (listsP l).take (i + 1) = (listsP l).take i ++ [bitsP (l.getD i 0)] := by
  rw [listsP, take_at _ i [] (by simpa using h), getD_map bitsP l i 0 [] h]
theorem lists_l0 {n : Nat} (hn : n ≤ 10) {l : List Int} (h : SmallP n l) : ∀ (d : Nat) (i : Nat), i + d = l.length → Ev (fun k => impl_news_lists.l0 k ((listsP l).take i) l (l.length : Int) (i : Int)) (listsP l) := by
  intro d
  have hl := h.1
  have hll : (listsP l).length = l.length := by simp [listsP]
  induction d with
  | zero =>
    intro i hi
    refine ev_step (f := fun _ => some ((listsP l).take i)) (fun k => ?_) ?_
    · simp only [impl_news_lists.l0]; rw [if_neg (by omega)]
    · rw [List.take_of_length_le (by omega)]; exact ev_now _
  | succ d ih =>
    intro i hi
    refine ev_step (f := fun k => (impl_listed.f k (l.getD i 0)).bind fun t => impl_news_lists.l0 k ((listsP l).take i ++ [t]) l (l.length : Int) ((i + 1 : Nat) : Int)) (fun k => ?_) ?_
    · simp only [impl_news_lists.l0, show rd l (i : Int) = l.getD i 0 from rfl]
      rw [if_pos (by omega), if_pos (by omega), if_pos (by omega), w64 (by omega) (by omega)]
      have hb : ((listsP l).take i).length < 5864062014805 := by rw [List.length_take]; omega
      simp only [if_pos hb]
      rfl
    · refine Ev.bind (listed_ev (smallP_1024 h hn i (by omega))) ?_
      rw [← lists_step l i (by omega)]
      exact ih (i + 1) (by omega)
theorem lists_ev {n : Nat} (hn : n ≤ 10) {l : List Int} (h : SmallP n l) : Ev (fun k => impl_news_lists.f k l) (listsP l) := by
  unfold impl_news_lists.f
  have := lists_l0 hn h l.length 0 (by omega)
  simpa using this


def resP (n : Int) (cs : List S75) : List (List Int) × Bool := if areLettersB n cs = true then (listsP (playL n.toNat cs), true) else ([], false)
theorem resP_rows (n : Int) (cs : List S75) (h : cs.length ≤ 1048576) : RowsI (resP n cs).1 ∧ 1 + totI (resP n cs).1 ≤ 1099511627776 := by
  unfold resP
  split
  · rename_i hg
    obtain ⟨h1, h2, h3, h4⟩ := areLettersB_true hg
    exact listsP_rows (by omega) (smallP_ofL h1 h4)
  · exact rowsI_tot (by simp) (by simp)
theorem leLists_l0 {n : Nat} (hn : n ≤ 10) {l : List Int} (h : SmallP n l) : ∀ (d : Nat) (i : Nat), i + d = l.length → Ev (fun k => spec_leLists.l0 k ((listsP l).take i) l (l.length : Int) (i : Int)) (listsP l) := by
  intro d
  have hl := h.1
  have hll : (listsP l).length = l.length := by simp [listsP]
  induction d with
  | zero =>
    intro i hi
    refine ev_step (f := fun _ => some ((listsP l).take i)) (fun k => ?_) ?_
    · simp only [spec_leLists.l0]; rw [if_neg (by omega)]
    · rw [List.take_of_length_le (by omega)]; exact ev_now _
  | succ d ih =>
    intro i hi
    refine ev_step (f := fun k => (spec_caBits.f k (l.getD i 0)).bind fun t => spec_leLists.l0 k ((listsP l).take i ++ [t]) l (l.length : Int) ((i + 1 : Nat) : Int)) (fun k => ?_) ?_
    · simp only [spec_leLists.l0, show rd l (i : Int) = l.getD i 0 from rfl]
      rw [if_pos (by omega), if_pos (by omega), if_pos (by omega), w64 (by omega) (by omega)]
      have hb : ((listsP l).take i).length < 5864062014805 := by rw [List.length_take]; omega
      simp only [if_pos hb]
      rfl
    · refine Ev.bind (caBits_ev (smallP_1024 h hn i (by omega))) ?_
      rw [← lists_step l i (by omega)]
      exact ih (i + 1) (by omega)
theorem leLists_ev {n : Nat} (hn : n ≤ 10) {l : List Int} (h : SmallP n l) : Ev (fun k => spec_leLists.f k l) (listsP l) := by
  unfold spec_leLists.f
  have := leLists_l0 hn h l.length 0 (by omega)
  simpa using this
theorem spec_ev (n : Int) (cs : List S75) (h : cs.length ≤ 1048576) : Ev (fun k => spec_KnownByLetters.f k n cs) (resP n cs) := by
  unfold spec_KnownByLetters.f resP
  refine Ev.bind (leGood_ev n cs h) ?_
  cases hg : areLettersB n cs with
  | false => simpa using ev_now _
  | true =>
    obtain ⟨h1, h2, h3, h4⟩ := areLettersB_true hg
    simp only [if_true]
    refine Ev.bind (lePlay_ev cs h1 h2 h h4) ?_
    exact Ev.bind (leLists_ev (by omega) (smallP_ofL h1 h4)) (ev_now _)
theorem impl_ev (n : Int) (cs : List S75) (h : cs.length ≤ 1048576) : Ev (fun k => impl_KnownByLetters.f k n cs) (resP n cs) := by
  unfold impl_KnownByLetters.f resP impl_AreLetters.f
  simp only [Option.bind_some]
  cases hg : areLettersB n cs with
  | false => simpa using ev_now _
  | true =>
    obtain ⟨h1, h2, h3, h4⟩ := areLettersB_true hg
    simp only [if_true]
    refine Ev.bind (byLetters_ev cs h1 h2 h h4) ?_
    exact Ev.bind (lists_ev (by omega) (smallP_ofL h1 h4)) (ev_now _)
theorem FnExactKnownByLetters : ∀ (a0 : Int) (l1 : (List S77)), (Lit.int .i64 a0).wf = true → l1.length ≤ 9223372036854775807 → ∃ k, laws_FnExactKnownByLetters.f k a0 l1 = some true := by
  intro a0 l1 w0 hl1
  apply Ev.rounds
  unfold laws_FnExactKnownByLetters.f
  by_cases h1 : l1.length ≤ 1048576
  · simp only [szLetterS_small l1 h1, Option.bind_some]
    have h0 : ¬ (1048576 - (l1.length : Int)) < 0 := by omega
    simp only [if_neg h0]
    have g1 : (toLetters l1).length ≤ 1048576 := by rw [toLetters_length]; exact h1
    refine Ev.bind (toLetterS_ev l1 h1) ?_
    refine Ev.bind (spec_ev a0 (toLetters l1) g1) ?_
    refine Ev.bind (impl_ev a0 (toLetters l1) g1) ?_
    obtain ⟨hr, hb⟩ := resP_rows a0 (toLetters l1) g1
    refine Ev.bind (eqIntSS_ev _ hr) ?_
    simp only [true_and, if_true]
    refine Ev.bind (eqLetterS_ev _ g1) ?_
    simp only [if_true]
    refine Ev.bind (markLetterS_ev _ 1 g1 (by omega) (by omega)) ?_
    have hm : 0 ≤ 1 + 2 * (((toLetters l1).length : Nat) : Int) := by omega
    simp only [if_pos hm]
    refine Ev.bind (markIntSS_ev _ 1 hr (by omega) hb) ?_
    refine Ev.bind (heldIntSS_ev _ 1 hr (by omega) hb) ?_
    have hp : 0 ≤ 1 + totI (resP a0 (toLetters l1)).1 := by have := totI_nonneg (resP a0 (toLetters l1)).1; omega
    simp only [hp, and_self, if_true]
    exact ev_now _
  · simp only [szLetterS_great l1 h1 hl1, Option.bind_some]
    exact ev_now _

end Go.Proofs.Ytelhjfalkhmhkaa.Pure
