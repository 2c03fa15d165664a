/- The pure side of FnExactSilentGroups: program and reference agree at every argument. No condition beside what an argument is. -/
import Derived.Test.YtelhjfalkhmhkaaPFnExactSilentGroupsx15
import Derived.Test.YtelhjfalkhmhkaaPBase
import Derived.Test.YtelhjfalkhmhkaaHIndices
import Derived.Lib.BitFns
namespace Go.Proofs.Ytelhjfalkhmhkaa.Pure
open Go.RowKit Go.Proofs.Ytelhjfalkhmhkaa.PFnExactSilentGroups Go.Proofs.YtelhjfalkhmhkaaW.PrintWords Go.Proofs.YtelhjfalkhmhkaaW.PrintLast Go.Proofs.YtelhjfalkhmhkaaW.PrintMore Go.Proofs.Ytelhjfalkhmhkaa.PB
set_option linter.unusedSimpArgs false
set_option linter.unusedVariables false
/-! letters: read, compared, marked -/
def toLetters (l : List S77) : List S75 := l.map fun c => ⟨c.f0, c.f1⟩
theorem toLetters_length (l : List S77) : (toLetters l).length = l.length := by simp [toLetters]

theorem szLetterS_small (l : List S77) (h : l.length ≤ 1048576) : laws_szLetterS.f l 1048576 = some (1048576 - (l.length : Int)) := by
  unfold laws_szLetterS.f
  rw [w64 (by omega) (by omega), if_neg (by omega)]
theorem szLetterS_great (l : List S77) (h : ¬ l.length ≤ 1048576) (h2 : l.length ≤ 9223372036854775807) : laws_szLetterS.f l 1048576 = some (-1) := by
  unfold laws_szLetterS.f
  rw [w64 (by omega) (by omega), if_pos (by omega)]

theorem toLetterS_l0 (l : List S77) (h : l.length ≤ 1048576) : ∀ (d : Nat) (i : Int) (acc : List S75), 0 ≤ i → i + d = l.length → acc.length = l.length →
    (∀ j : Nat, (j : Int) < i → acc.getD j z75 = (toLetters l).getD j z75) → Ev (fun k => laws_toLetterS.l0 k l acc i) (toLetters l) := by
  intro d
  induction d with
  | zero =>
    intro i acc h0 hi hl hacc
    refine ev_step (f := fun _ => some acc) (fun k => ?_) ?_
    · simp only [laws_toLetterS.l0]; rw [if_neg (by omega)]
    · have : acc = toLetters l := ext_getD z75 (by rw [hl, toLetters_length]) (fun j hj => hacc j (by omega))
      rw [this]; exact ev_now _
  | succ d ih =>
    intro i acc h0 hi hl hacc
    refine ev_step (f := fun k => laws_toLetterS.l0 k l (acc.set i.toNat ⟨(l.getD i.toNat z77).f0, (l.getD i.toNat z77).f1⟩) (i + 1)) (fun k => ?_) ?_
    · simp only [laws_toLetterS.l0, laws_toLetter.f, rd_T77, Option.bind_some]
      rw [if_pos (by omega), if_pos h0, if_pos (by omega), w64 (by omega) (by omega)]
    · refine ih (i + 1) _ (by omega) (by omega) (by simpa using hl) (fun j hj => ?_)
      rw [getD_set _ _ _ _ _ (by omega)]
      split
      · rename_i e
        subst e
        rw [toLetters, getD_map (fun c : S77 => (⟨c.f0, c.f1⟩ : S75)) l i.toNat z77 z75 (by omega)]
      · exact hacc j (by omega)
theorem toLetterS_ev (l : List S77) (h : l.length ≤ 1048576) : Ev (fun k => laws_toLetterS.f k l) (toLetters l) := by
  unfold laws_toLetterS.f
  have h1 : (0 : Int) ≤ (l.length : Int) := by omega
  have h2 : ((l.length : Int)).toNat ≤ 17592186044416 := by omega
  simp only [if_pos h1, if_pos h2]
  exact toLetterS_l0 l h l.length 0 _ (by omega) (by omega) (by simp) (fun j hj => by omega)

theorem eqLetterS_l0 (a : List S75) (h : a.length ≤ 1048576) : ∀ (d : Nat) (i : Int), 0 ≤ i → i + d = a.length → Ev (fun k => laws_eqLetterS.l0 k a a i) true := by
  intro d
  induction d with
  | zero =>
    intro i h0 hi
    refine ev_step (f := fun _ => some true) (fun k => ?_) (ev_now _)
    simp only [laws_eqLetterS.l0]; rw [if_neg (by omega)]
  | succ d ih =>
    intro i h0 hi
    refine ev_step (f := fun k => laws_eqLetterS.l0 k a a (i + 1)) (fun k => ?_) (ih _ (by omega) (by omega))
    simp only [laws_eqLetterS.l0, laws_eqLetter.f, if_true, Option.bind_some]
    rw [if_pos (by omega), if_pos h0, if_pos (by omega), w64 (by omega) (by omega)]
theorem eqLetterS_ev (a : List S75) (h : a.length ≤ 1048576) : Ev (fun k => laws_eqLetterS.f k a a) true := by
  unfold laws_eqLetterS.f
  simp only [if_true]
  exact eqLetterS_l0 a h a.length 0 (by omega) (by omega)

/-! letters: marked -/
def markedL (n : Nat) (m : Int) : List S75 := (List.range n).map fun i : Nat => ⟨m + 2 * (i : Int), m + 2 * (i : Int) + 1⟩
theorem markLetterS_l0 (n : Nat) (m : Int) (hn : n ≤ 1048576) (hm : 0 ≤ m) (hm2 : m ≤ 1099511627776) : ∀ (d : Nat) (i : Int) (acc : List S75), 0 ≤ i → i + d = n → acc.length = n →
    (∀ j : Nat, (j : Int) < i → acc.getD j z75 = (markedL n m).getD j z75) → Ev (fun k => laws_markLetterS.l0 k acc (m + 2 * i) i) (m + 2 * n, markedL n m) := by
  intro d
  induction d with
  | zero =>
    intro i acc h0 hi hl hacc
    refine ev_step (f := fun _ => some (m + 2 * i, acc)) (fun k => ?_) ?_
    · simp only [laws_markLetterS.l0]; rw [if_neg (by omega)]
    · have e : acc = markedL n m := ext_getD z75 (by rw [hl]; simp [markedL]) (fun j hj => hacc j (by omega))
      rw [e, show m + 2 * i = m + 2 * n by omega]; exact ev_now _
  | succ d ih =>
    intro i acc h0 hi hl hacc
    refine ev_step (f := fun k => laws_markLetterS.l0 k (acc.set i.toNat ⟨m + 2 * i, m + 2 * i + 1⟩) (m + 2 * (i + 1)) (i + 1)) (fun k => ?_) ?_
    · have hi' : i.toNat < acc.length := by omega
      simp only [laws_markLetterS.l0, Option.bind_some, rd_T75]
      rw [if_pos (by omega), if_pos h0, w64 (by omega) (by omega), w64 (by omega) (by omega), w64 (by omega) (by omega), show m + 2 * i + 1 + 1 = m + 2 * (i + 1) by omega, List.set_set, getD_set _ _ _ _ _ hi']
      simp
    · refine ih (i + 1) _ (by omega) (by omega) (by simpa using hl) (fun j hj => ?_)
      rw [getD_set _ _ _ _ _ (by omega)]
      split
      · rename_i e
        subst e
        rw [markedL, getD_range_map _ _ _ _ (by omega), show ((i.toNat : Nat) : Int) = i by omega]
      · exact hacc j (by omega)
theorem markLetterS_ev (l : List S75) (m : Int) (hn : l.length ≤ 1048576) (hm : 0 ≤ m) (hm2 : m ≤ 1099511627776) : Ev (fun k => laws_markLetterS.f k l m) (m + 2 * (l.length : Int), markedL l.length m) := by
  unfold laws_markLetterS.f
  have := markLetterS_l0 l.length m hn hm hm2 l.length 0 l (by omega) (by omega) rfl (fun j hj => by omega)
  simpa using this

/-! lists of numbers: compared, marked -/
theorem eqIntS_l0 (a : List Int) (h : a.length ≤ 1048576) : ∀ (d : Nat) (i : Int), 0 ≤ i → i + d = a.length → Ev (fun k => laws_eqIntS.l0 k a a i) true := by
  intro d
  induction d with
  | zero =>
    intro i h0 hi
    refine ev_step (f := fun _ => some true) (fun k => ?_) (ev_now _)
    simp only [laws_eqIntS.l0]; rw [if_neg (by omega)]
  | succ d ih =>
    intro i h0 hi
    refine ev_step (f := fun k => laws_eqIntS.l0 k a a (i + 1)) (fun k => ?_) (ih _ (by omega) (by omega))
    simp only [laws_eqIntS.l0, if_true]
    rw [if_pos (by omega), if_pos h0, if_pos (by omega), w64 (by omega) (by omega)]
theorem eqIntS_ev (a : List Int) (h : a.length ≤ 1048576) : Ev (fun k => laws_eqIntS.f k a a) true := by
  unfold laws_eqIntS.f
  simp only [if_true]
  exact eqIntS_l0 a h a.length 0 (by omega) (by omega)
def markedI (n : Nat) (m : Int) : List Int := (List.range n).map fun i : Nat => m + (i : Int)
theorem markIntS_l0 (n : Nat) (m : Int) (hn : n ≤ 1048576) (hm : 0 ≤ m) (hm2 : m ≤ 1099511627776) : ∀ (d : Nat) (i : Int) (acc : List Int), 0 ≤ i → i + d = n → acc.length = n →
    (∀ j : Nat, (j : Int) < i → acc.getD j 0 = (markedI n m).getD j 0) → Ev (fun k => laws_markIntS.l0 k acc (m + i) i) (m + n, markedI n m) := by
  intro d
  induction d with
  | zero =>
    intro i acc h0 hi hl hacc
    refine ev_step (f := fun _ => some (m + i, acc)) (fun k => ?_) ?_
    · simp only [laws_markIntS.l0]; rw [if_neg (by omega)]
    · have e : acc = markedI n m := ext_getD 0 (by rw [hl]; simp [markedI]) (fun j hj => hacc j (by omega))
      rw [e, show m + i = m + n by omega]; exact ev_now _
  | succ d ih =>
    intro i acc h0 hi hl hacc
    refine ev_step (f := fun k => laws_markIntS.l0 k (acc.set i.toNat (m + i)) (m + (i + 1)) (i + 1)) (fun k => ?_) ?_
    · simp only [laws_markIntS.l0]
      rw [if_pos (by omega), if_pos h0, w64 (by omega) (by omega), w64 (by omega) (by omega), show m + i + 1 = m + (i + 1) by omega]
    · refine ih (i + 1) _ (by omega) (by omega) (by simpa using hl) (fun j hj => ?_)
      rw [getD_set _ _ _ _ _ (by omega)]
      split
      · rename_i e
        subst e
        rw [markedI, getD_range_map _ _ _ _ (by omega)]
        omega
      · exact hacc j (by omega)
theorem markIntS_ev (l : List Int) (m : Int) (hn : l.length ≤ 1048576) (hm : 0 ≤ m) (hm2 : m ≤ 1099511627776) : Ev (fun k => laws_markIntS.f k l m) (m + (l.length : Int), markedI l.length m) := by
  unfold laws_markIntS.f
  have := markIntS_l0 l.length m hn hm hm2 l.length 0 l (by omega) (by omega) rfl (fun j hj => by omega)
  simpa using this
theorem heldIntS_l0 (n : Nat) (m : Int) (hn : n ≤ 1048576) (hm : 0 ≤ m) (hm2 : m ≤ 1099511627776) : ∀ (d : Nat) (i : Int), 0 ≤ i → i + d = n → Ev (fun k => laws_heldIntS.l0 k (markedI n m) (m + i) i) (m + n) := by
  intro d
  have hl : (markedI n m).length = n := by simp [markedI]
  induction d with
  | zero =>
    intro i h0 hi
    refine ev_step (f := fun _ => some (m + i)) (fun k => ?_) ?_
    · simp only [laws_heldIntS.l0]; rw [if_neg (by omega)]
    · rw [show m + i = m + n by omega]; exact ev_now _
  | succ d ih =>
    intro i h0 hi
    refine ev_step (f := fun k => laws_heldIntS.l0 k (markedI n m) (m + (i + 1)) (i + 1)) (fun k => ?_) (ih _ (by omega) (by omega))
    have e : rd (markedI n m) i = m + i := by
      show (markedI n m).getD i.toNat 0 = _
      rw [markedI, getD_range_map _ _ _ _ (by omega)]; omega
    simp only [laws_heldIntS.l0, e, if_true]
    rw [if_pos (by omega), if_pos h0, w64 (by omega) (by omega), w64 (by omega) (by omega), show m + i + 1 = m + (i + 1) by omega]
theorem heldIntS_ev (n : Nat) (m : Int) (hn : n ≤ 1048576) (hm : 0 ≤ m) (hm2 : m ≤ 1099511627776) : Ev (fun k => laws_heldIntS.f k (markedI n m) m) (m + (n : Int)) := by
  unfold laws_heldIntS.f
  have := heldIntS_l0 n m hn hm hm2 n 0 (by omega) (by omega)
  simpa using this

/-! spec.leGood -/
theorem caFriends_f (n : Int) : spec_caFriends.f n = some (decide (1 ≤ n) && decide (n ≤ 10)) := by
  unfold spec_caFriends.f spec_l1In.f
  by_cases h1 : 1 ≤ n <;> by_cases h2 : n ≤ 10 <;> simp [h1, h2]
theorem leLetter_f (n a b : Int) (h1 : 1 ≤ n) (h2 : n ≤ 10) : spec_leLetter.f n a b = some (isLetterB n a b) := by
  unfold spec_leLetter.f spec_l1In.f isLetterB
  rw [w64 (by omega) (by omega)]
  have e : ∀ x : Int, decide (x ≤ n - 1) = decide (x < n) := fun x => by rw [decide_eq_decide]; omega
  by_cases g1 : 0 ≤ a
  · by_cases g2 : a < n
    · have g2' : a ≤ n - 1 := by omega
      by_cases g3 : 0 ≤ b
      · by_cases g4 : b < n
        · have g4' : b ≤ n - 1 := by omega
          simp [g1, g2, g2', g3, g4, g4', bne]
        · have g4' : ¬ b ≤ n - 1 := by omega
          simp [g1, g2, g2', g3, g4, g4']
      · simp [g1, g2, g2', g3]
    · have g2' : ¬ a ≤ n - 1 := by omega
      simp [g1, g2, g2']
  · simp [g1]
theorem leGood_l0 (n : Int) (l : List S75) (h : l.length ≤ 1048576) (h1 : 1 ≤ n) (h2 : n ≤ 10) : ∀ (d : Nat) (i : Int), 0 ≤ i → i + d = l.length →
    Ev (fun k => spec_leGood.l0 k n l (l.length : Int) i) ((l.drop i.toNat).all fun c => isLetterB n c.f0 c.f1) := by
  intro d
  induction d with
  | zero =>
    intro i h0 hi
    refine ev_step (f := fun _ => some true) (fun k => ?_) ?_
    · simp only [spec_leGood.l0]; rw [if_neg (by omega)]
    · rw [List.drop_eq_nil_of_le (by omega)]; exact ev_now _
  | succ d ih =>
    intro i h0 hi
    have hd := drop_at l i.toNat z75 (by omega)
    cases hq : isLetterB n (l.getD i.toNat z75).f0 (l.getD i.toNat z75).f1 with
    | true =>
      refine ev_step (f := fun k => spec_leGood.l0 k n l (l.length : Int) (i + 1)) (fun k => ?_) ?_
      · simp only [spec_leGood.l0, rd_T75, leLetter_f n _ _ h1 h2, Option.bind_some, hq, if_true]
        rw [if_pos (by omega), if_pos h0, if_pos (by omega), w64 (by omega) (by omega)]
      · have := ih (i + 1) (by omega) (by omega)
        rw [hd, List.all_cons, hq, Bool.true_and]
        rwa [show (i + 1).toNat = i.toNat + 1 by omega] at this
    | false =>
      refine ev_step (f := fun _ => some false) (fun k => ?_) ?_
      · simp only [spec_leGood.l0, rd_T75, leLetter_f n _ _ h1 h2, Option.bind_some, hq]
        rw [if_pos (by omega), if_pos h0, if_pos (by omega), if_neg (by simp)]
      · rw [hd, List.all_cons, hq, Bool.false_and]; exact ev_now _
theorem leGood_ev (n : Int) (l : List S75) (h : l.length ≤ 1048576) : Ev (fun k => spec_leGood.f k n l) (areLettersB n l) := by
  unfold spec_leGood.f
  simp only [caFriends_f, Option.bind_some]
  by_cases h1 : 1 ≤ n ∧ n ≤ 10
  · obtain ⟨h1, h2⟩ := h1
    by_cases h3 : l.length ≤ 60
    · have e : areLettersB n l = l.all fun c => isLetterB n c.f0 c.f1 := by simp [areLettersB, h1, h2, h3]
      rw [e]
      have e2 : decide ((l.length : Int) > 60) = false := by rw [decide_eq_false_iff_not]; omega
      simp only [h1, h2, decide_true, Bool.and_self, if_true, e2]
      refine ev_step (f := fun k => spec_leGood.l0 k n l (l.length : Int) 0) (fun k => by simp [spec_leGood.j0]) ?_
      simpa using leGood_l0 n l h h1 h2 l.length 0 (by omega) (by omega)
    · have e : areLettersB n l = false := by simp [areLettersB, h3]
      rw [e]
      have e2 : decide ((l.length : Int) > 60) = true := by rw [decide_eq_true_eq]; omega
      simp only [h1, h2, decide_true, Bool.and_self, if_true, e2]
      exact ev_step (f := fun _ => some false) (fun k => by simp [spec_leGood.j0]) (ev_now _)
  · have e : areLettersB n l = false := by rw [Bool.eq_false_iff]; intro hh; simp [areLettersB] at hh; exact h1 ⟨hh.1, hh.2.1⟩
    have e1 : (decide (1 ≤ n) && decide (n ≤ 10)) = false := by rw [Bool.eq_false_iff]; simpa using h1
    rw [e]
    simp only [e1]
    exact ev_step (f := fun _ => some false) (fun k => by simp [spec_leGood.j0]) (ev_now _)
theorem areLettersB_true {n : Int} {cs : List S75} (h : areLettersB n cs = true) : 1 ≤ n ∧ n ≤ 10 ∧ cs.length ≤ 60 ∧ ∀ c ∈ cs, isLetterB n c.f0 c.f1 = true := by
  simp [areLettersB] at h
  exact h

/-! news: what friends know, as numbers below 2^n -/
def orI (a b : Int) : Int := ((a.toNat ||| b.toNat : Nat) : Int)
def startP (n : Nat) : List Int := (List.range n).map fun i => ((2 ^ i : Nat) : Int)
def SmallP (n : Nat) (l : List Int) : Prop := l.length = n ∧ ∀ x ∈ l, 0 ≤ x ∧ x < ((2 ^ n : Nat) : Int)
theorem smallP_at {n : Nat} {l : List Int} (h : SmallP n l) (i : Nat) (hi : i < n) : 0 ≤ l.getD i 0 ∧ l.getD i 0 < ((2 ^ n : Nat) : Int) := by
  have hl : i < l.length := by rw [h.1]; exact hi
  rw [getD_at l i 0 hl]
  exact h.2 _ (List.getElem_mem hl)
theorem smallP_1024 {n : Nat} {l : List Int} (h : SmallP n l) (hn : n ≤ 10) (i : Nat) (hi : i < n) : 0 ≤ l.getD i 0 ∧ l.getD i 0 < 1024 := by
  have h1 := smallP_at h i hi
  have h2 : 2 ^ n ≤ 2 ^ 10 := Nat.pow_le_pow_right (by omega) hn
  omega
theorem smallP_start (n : Nat) : SmallP n (startP n) := by
  refine ⟨by simp [startP], fun x hx => ?_⟩
  obtain ⟨i, hi, rfl⟩ := List.mem_map.1 hx
  have : i < n := by simpa using hi
  have h2 : 2 ^ i < 2 ^ n := Nat.pow_lt_pow_right (by omega) this
  have h3 : 0 < 2 ^ i := Nat.two_pow_pos i
  omega
theorem orI_lt {n : Nat} {a b : Int} (ha : 0 ≤ a ∧ a < ((2 ^ n : Nat) : Int)) (hb : 0 ≤ b ∧ b < ((2 ^ n : Nat) : Int)) : 0 ≤ orI a b ∧ orI a b < ((2 ^ n : Nat) : Int) := by
  have h := Nat.or_lt_two_pow (x := a.toNat) (y := b.toNat) (n := n) (by omega) (by omega)
  unfold orI
  omega
theorem smallP_set {n : Nat} {l : List Int} (h : SmallP n l) (i : Nat) (x : Int) (hx : 0 ≤ x ∧ x < ((2 ^ n : Nat) : Int)) : SmallP n (l.set i x) := by
  refine ⟨by rw [List.length_set, h.1], fun y hy => ?_⟩
  rcases List.mem_or_eq_of_mem_set hy with h1 | h1
  · exact h.2 y h1
  · rw [h1]; exact hx
theorem or_i64 {a b : Int} (ha : 0 ≤ a ∧ a < 1024) (hb : 0 ≤ b ∧ b < 1024) : Go.bits .or .i64 a b = orI a b := by
  have h := (bits_nat .i64 10 (by decide) (fun n h0 h1 => by rw [IntKind.wrap_i64]; omega) a.toNat b.toNat (by omega) (by omega)).2
  rw [show ((a.toNat : Nat) : Int) = a by omega, show ((b.toNat : Nat) : Int) = b by omega] at h
  exact h
theorem or_u16 {a b : Int} (ha : 0 ≤ a ∧ a < 1024) (hb : 0 ≤ b ∧ b < 1024) : Go.bits .or .u16 a b = orI a b := by
  have h := (bits_nat .u16 10 (by decide) (fun n h0 h1 => by simp [IntKind.wrap, IntKind.bits, IntKind.signed]; omega) a.toNat b.toNat (by omega) (by omega)).2
  rw [show ((a.toNat : Nat) : Int) = a by omega, show ((b.toNat : Nat) : Int) = b by omega] at h
  exact h
theorem shl_i64_all : ∀ i : Fin 11, shl .i64 1 (i.val : Int) = ((2 ^ i.val : Nat) : Int) := by decide +kernel
theorem shl_u16_all : ∀ i : Fin 11, shl .u16 1 (i.val : Int) = ((2 ^ i.val : Nat) : Int) := by decide +kernel
theorem shl_i64_at (i : Int) (h0 : 0 ≤ i) (h1 : i ≤ 10) : shl .i64 1 i = ((2 ^ i.toNat : Nat) : Int) := by
  have := shl_i64_all ⟨i.toNat, by omega⟩
  simp only [Int.toNat_of_nonneg h0] at this
  exact this
theorem shl_u16_at (i : Int) (h0 : 0 ≤ i) (h1 : i ≤ 10) : shl .u16 1 i = ((2 ^ i.toNat : Nat) : Int) := by
  have := shl_u16_all ⟨i.toNat, by omega⟩
  simp only [Int.toNat_of_nonneg h0] at this
  exact this
theorem startP_take (n i : Nat) (h : i < n) : (startP n).take (i + 1) = (startP n).take i ++ [((2 ^ i : Nat) : Int)] := by
  rw [take_at (startP n) i 0 (by simpa [startP] using h), startP, getD_range_map _ _ _ _ h]
theorem caStart_l0 (n : Nat) (hn : n ≤ 10) : ∀ (d : Nat) (i : Int), 0 ≤ i → i + d = n → Ev (fun k => spec_caStart.l0 k (n : Int) ((startP n).take i.toNat) i) (startP n) := by
  intro d
  have hl : (startP n).length = n := by simp [startP]
  induction d with
  | zero =>
    intro i h0 hi
    refine ev_step (f := fun _ => some ((startP n).take i.toNat)) (fun k => ?_) ?_
    · simp only [spec_caStart.l0]; rw [if_neg (by omega)]
    · rw [List.take_of_length_le (by omega)]; exact ev_now _
  | succ d ih =>
    intro i h0 hi
    refine ev_step (f := fun k => spec_caStart.l0 k (n : Int) ((startP n).take (i + 1).toNat) (i + 1)) (fun k => ?_) (ih _ (by omega) (by omega))
    simp only [spec_caStart.l0]
    rw [if_pos (by omega), if_pos h0, if_pos (by rw [List.length_take]; omega), w64 (by omega) (by omega), shl_i64_at i h0 (by omega), ← startP_take n i.toNat (by omega), show (i + 1).toNat = i.toNat + 1 by omega]
theorem caStart_ev (n : Int) (h1 : 1 ≤ n) (h2 : n ≤ 10) : Ev (fun k => spec_caStart.f k n) (startP n.toNat) := by
  have := caStart_l0 n.toNat (by omega) n.toNat 0 (by omega) (by omega)
  unfold spec_caStart.f
  simpa [show ((n.toNat : Nat) : Int) = n by omega] using this
theorem first_l0 (n : Nat) (hn : n ≤ 10) : ∀ (d : Nat) (i : Int), 0 ≤ i → i + d = n → Ev (fun k => impl_first.l0 k ((startP n).take i.toNat) (n : Int) i) (startP n) := by
  intro d
  have hl : (startP n).length = n := by simp [startP]
  induction d with
  | zero =>
    intro i h0 hi
    refine ev_step (f := fun _ => some ((startP n).take i.toNat)) (fun k => ?_) ?_
    · simp only [impl_first.l0]; rw [if_neg (by omega)]
    · rw [List.take_of_length_le (by omega)]; exact ev_now _
  | succ d ih =>
    intro i h0 hi
    refine ev_step (f := fun k => impl_first.l0 k ((startP n).take (i + 1).toNat) (n : Int) (i + 1)) (fun k => ?_) (ih _ (by omega) (by omega))
    simp only [impl_first.l0]
    rw [if_pos (by omega), if_pos h0, if_pos (by rw [List.length_take]; omega), w64 (by omega) (by omega), shl_u16_at i h0 (by omega), ← startP_take n i.toNat (by omega), show (i + 1).toNat = i.toNat + 1 by omega]
theorem first_ev (n : Int) (h1 : 1 ≤ n) (h2 : n ≤ 10) : Ev (fun k => impl_first.f k n) (startP n.toNat) := by
  have := first_l0 n.toNat (by omega) n.toNat 0 (by omega) (by omega)
  unfold impl_first.f
  simpa [show ((n.toNat : Nat) : Int) = n by omega] using this

/-! news behind letters -/
def tellP (l : List Int) (c : S75) : List Int := l.set c.f1.toNat (orI (l.getD c.f1.toNat 0) (l.getD c.f0.toNat 0))
def playL (n : Nat) (cs : List S75) : List Int := cs.foldl tellP (startP n)
theorem isLetterB_true {n a b : Int} (h : isLetterB n a b = true) : 0 ≤ a ∧ a < n ∧ 0 ≤ b ∧ b < n := by
  simp [isLetterB] at h
  omega
theorem smallP_tell {n : Nat} {l : List Int} (h : SmallP n l) (c : S75) (hc : isLetterB n c.f0 c.f1 = true) : SmallP n (tellP l c) := by
  obtain ⟨h1, h2, h3, h4⟩ := isLetterB_true hc
  exact smallP_set h _ _ (orI_lt (smallP_at h c.f1.toNat (by omega)) (smallP_at h c.f0.toNat (by omega)))
theorem smallP_foldL {n : Nat} : ∀ (cs : List S75) (l : List Int), SmallP n l → (∀ c ∈ cs, isLetterB n c.f0 c.f1 = true) → SmallP n (cs.foldl tellP l)
  | [], _, h, _ => h
  | c :: cs, _, h, hc => smallP_foldL cs _ (smallP_tell h c (hc c (List.mem_cons_self))) (fun d hd => hc d (List.mem_cons_of_mem _ hd))
theorem smallP_playL {n : Nat} (cs : List S75) (hc : ∀ c ∈ cs, isLetterB n c.f0 c.f1 = true) : SmallP n (playL n cs) := smallP_foldL cs _ (smallP_start n) hc

/-! single digits -/
theorem bit_i64_all : ∀ x : Fin 1024, ∀ a : Fin 10, Go.bits .and .i64 (shr .i64 (x.val : Int) (a.val : Int)) 1 = if x.val.testBit a.val then 1 else 0 := by decide +kernel
theorem bit_u16_all : ∀ x : Fin 1024, ∀ a : Fin 10, Go.bits .and .u16 (shr .u16 (x.val : Int) (a.val : Int)) 1 = if x.val.testBit a.val then 1 else 0 := by decide +kernel
def bitB (x a : Int) : Bool := x.toNat.testBit a.toNat
theorem bit_i64 {x a : Int} (hx : 0 ≤ x ∧ x < 1024) (h0 : 0 ≤ a) (h1 : a < 10) : (Go.bits .and .i64 (shr .i64 x a) 1 = 1) = (bitB x a = true) := by
  have h := bit_i64_all ⟨x.toNat, by omega⟩ ⟨a.toNat, by omega⟩
  simp only [Int.toNat_of_nonneg hx.1, Int.toNat_of_nonneg h0] at h
  rw [h, bitB]
  cases x.toNat.testBit a.toNat <;> simp
theorem bit_u16 {x a : Int} (hx : 0 ≤ x ∧ x < 1024) (h0 : 0 ≤ a) (h1 : a < 10) : (Go.bits .and .u16 (shr .u16 x a) 1 = 1) = (bitB x a = true) := by
  have h := bit_u16_all ⟨x.toNat, by omega⟩ ⟨a.toNat, by omega⟩
  simp only [Int.toNat_of_nonneg hx.1, Int.toNat_of_nonneg h0] at h
  rw [h, bitB]
  cases x.toNat.testBit a.toNat <;> simp

theorem ev_all {g : Nat → Nat → Option Bool} {p : Nat → Bool} : ∀ (m : Nat), (∀ i, i < m → Ev (fun k => g k i) (p i)) → ∃ K, ∀ k, K ≤ k → ∀ i, i < m → g k i = some (p i)
  | 0, _ => ⟨0, fun _ _ _ h => absurd h (Nat.not_lt_zero _)⟩
  | m + 1, h => by
    obtain ⟨K, hK⟩ := ev_all m (fun i hi => h i (by omega))
    obtain ⟨K', hK'⟩ := h m (by omega)
    refine ⟨max K K', fun k hk i hi => ?_⟩
    by_cases e : i = m
    · subst e; exact hK' k (by omega)
    · exact hK k (by omega) i (by omega)
theorem ev_idxO {g : Nat → Nat → Option Bool} {p : Nat → Bool} {m : Nat} (hm : m ≤ 1048576) (h : ∀ i, i < m → Ev (fun k => g k i) (p i)) : Ev (fun k => Go.Proofs.Ytelhjfalkhmhkaa.H.idxO (g k) m) (Go.Proofs.Ytelhjfalkhmhkaa.H.idxs p m) := by
  obtain ⟨K, hK⟩ := ev_all m h
  exact ⟨K, fun k hk => Go.Proofs.Ytelhjfalkhmhkaa.H.idxO_some hm (hK k hk)⟩

/-! who can hear from whom -/
inductive Reach (cs : List S75) (s : Nat) : Nat → Prop
  | refl : Reach cs s s
  | step (c : S75) : Reach cs s c.f0.toNat → c ∈ cs → Reach cs s c.f1.toNat
theorem Reach.head {cs : List S75} {c : S75} (hc : c ∈ cs) {t : Nat} (h : Reach cs c.f1.toNat t) : Reach cs c.f0.toNat t := by
  induction h with
  | refl => exact Reach.step c Reach.refl hc
  | step d _ hd ih => exact Reach.step d ih hd
def bitV (l : List Int) (v i : Nat) : Bool := (l.getD v 0).toNat.testBit i
theorem orI_bit (a b : Int) (i : Nat) : (orI a b).toNat.testBit i = (a.toNat.testBit i || b.toNat.testBit i) := by
  rw [orI, Int.toNat_natCast, Nat.testBit_or]
theorem bitV_set (l : List Int) (u : Nat) (x : Int) (hu : u < l.length) (v i : Nat) : bitV (l.set u x) v i = if v = u then x.toNat.testBit i else bitV l v i := by
  unfold bitV
  by_cases e : v = u
  · subst e
    rw [if_pos rfl, List.getD_eq_getElem?_getD, List.getElem?_set_self hu]
    rfl
  · rw [if_neg e, List.getD_eq_getElem?_getD, List.getElem?_set_ne (by omega), ← List.getD_eq_getElem?_getD]
theorem bitV_start (n v i : Nat) (hv : v < n) : bitV (startP n) v i = decide (v = i) := by
  unfold bitV startP
  rw [getD_range_map _ _ _ _ hv, Int.toNat_natCast, Nat.testBit_two_pow]
/-! the program: out[To] |= out[From], n rounds -/
def GoodL (n : Nat) (cs : List S75) : Prop := ∀ c ∈ cs, isLetterB n c.f0 c.f1 = true
theorem tell_bit {n : Nat} {l : List Int} (h : SmallP n l) {c : S75} (hc : isLetterB n c.f0 c.f1 = true) (v i : Nat) : bitV (tellP l c) v i = (bitV l v i || (decide (v = c.f1.toNat) && bitV l c.f0.toNat i)) := by
  obtain ⟨h1, h2, h3, h4⟩ := isLetterB_true hc
  unfold tellP
  rw [bitV_set _ _ _ (by rw [h.1]; omega), orI_bit]
  by_cases e : v = c.f1.toNat
  · subst e; rw [if_pos rfl]; simp [bitV]
  · rw [if_neg e]; simp [e]
theorem tells_mono {n : Nat} : ∀ (cs : List S75) (l : List Int), SmallP n l → GoodL n cs → ∀ v i, bitV l v i = true → bitV (cs.foldl tellP l) v i = true
  | [], _, _, _, _, _, h => h
  | c :: cs, l, hl, hc, v, i, h => tells_mono cs _ (smallP_tell hl c (hc c List.mem_cons_self)) (fun d hd => hc d (List.mem_cons_of_mem _ hd)) v i (by rw [tell_bit hl (hc c List.mem_cons_self), h, Bool.true_or])
/-- An arrow that is not closed yet is closed behind a round. -/
theorem tells_close {n : Nat} : ∀ (cs : List S75) (l : List Int), SmallP n l → GoodL n cs → ∀ c ∈ cs, ∀ i, bitV l c.f0.toNat i = true → bitV (cs.foldl tellP l) c.f1.toNat i = true
  | d :: cs, l, hl, hc, c, hm, i, h => by
    have hd := hc d List.mem_cons_self
    have hs := smallP_tell hl d hd
    have hc' : GoodL n cs := fun e he => hc e (List.mem_cons_of_mem _ he)
    rcases List.mem_cons.1 hm with rfl | hm
    · refine tells_mono cs _ hs hc' _ i ?_
      rw [tell_bit hl hd, h]; simp
    · refine tells_close cs _ hs hc' c hm i ?_
      rw [tell_bit hl hd, h, Bool.true_or]
/-- Where all arrows are closed for a source, a round turns nothing of it. -/
theorem tells_still {n : Nat} (i : Nat) : ∀ (cs : List S75) (l : List Int), SmallP n l → GoodL n cs → (∀ c ∈ cs, bitV l c.f0.toNat i = true → bitV l c.f1.toNat i = true) → ∀ v, bitV (cs.foldl tellP l) v i = bitV l v i
  | [], _, _, _, _, _ => rfl
  | c :: cs, l, hl, hc, hk, v => by
    have hd := hc c List.mem_cons_self
    have same : ∀ v, bitV (tellP l c) v i = bitV l v i := fun v => by
      rw [tell_bit hl hd]
      by_cases e : v = c.f1.toNat
      · subst e
        cases h0 : bitV l c.f0.toNat i with
        | false => simp
        | true => rw [hk c List.mem_cons_self h0]; simp
      · simp [e]
    rw [List.foldl_cons, tells_still i cs _ (smallP_tell hl c hd) (fun d hd => hc d (List.mem_cons_of_mem _ hd)) (fun d hd h0 => by rw [same] at h0 ⊢; exact hk d (List.mem_cons_of_mem _ hd) h0) v, same]
theorem tells_sound {n : Nat} {all : List S75} : ∀ (cs : List S75) (l : List Int), SmallP n l → GoodL n cs → (∀ c ∈ cs, c ∈ all) → (∀ v i, bitV l v i = true → Reach all i v) → ∀ v i, bitV (cs.foldl tellP l) v i = true → Reach all i v
  | [], _, _, _, _, h => h
  | c :: cs, l, hl, hc, hm, h => by
    have hd := hc c List.mem_cons_self
    refine tells_sound cs _ (smallP_tell hl c hd) (fun d hd => hc d (List.mem_cons_of_mem _ hd)) (fun d hd => hm d (List.mem_cons_of_mem _ hd)) (fun v i hv => ?_)
    rw [tell_bit hl hd] at hv
    rcases Bool.or_eq_true_iff.1 hv with hv | hv
    · exact h v i hv
    · simp only [Bool.and_eq_true, decide_eq_true_eq] at hv
      rw [hv.1]
      exact Reach.step c (h _ _ hv.2) (hm c List.mem_cons_self)
def roundsP (cs : List S75) : Nat → List Int → List Int
  | 0, l => l
  | k + 1, l => roundsP cs k (cs.foldl tellP l)
theorem rounds_small {n : Nat} {cs : List S75} (hc : GoodL n cs) : ∀ k l, SmallP n l → SmallP n (roundsP cs k l)
  | 0, _, h => h
  | k + 1, _, h => rounds_small hc k _ (smallP_foldL cs _ h hc)
theorem rounds_mono {n : Nat} {cs : List S75} (hc : GoodL n cs) : ∀ k l, SmallP n l → ∀ v i, bitV l v i = true → bitV (roundsP cs k l) v i = true
  | 0, _, _, _, _, h => h
  | k + 1, l, hl, v, i, h => rounds_mono hc k _ (smallP_foldL cs _ hl hc) v i (tells_mono cs l hl hc v i h)
theorem rounds_sound {n : Nat} {cs : List S75} (hc : GoodL n cs) : ∀ k l, SmallP n l → (∀ v i, bitV l v i = true → Reach cs i v) → ∀ v i, bitV (roundsP cs k l) v i = true → Reach cs i v
  | 0, _, _, h => h
  | k + 1, l, hl, h => rounds_sound hc k _ (smallP_foldL cs _ hl hc) (tells_sound cs l hl hc (fun _ h => h) h)
def closedS (cs : List S75) (l : List Int) (i : Nat) : Prop := ∀ c ∈ cs, bitV l c.f0.toNat i = true → bitV l c.f1.toNat i = true
def knowN (n : Nat) (l : List Int) (i : Nat) : Nat := (List.range n).countP (fun v => bitV l v i)
theorem countP_lt {p q : Nat → Bool} : ∀ (xs : List Nat), (∀ x ∈ xs, p x = true → q x = true) → (∃ x ∈ xs, p x = false ∧ q x = true) → xs.countP p < xs.countP q
  | x :: xs, h, ⟨y, hy, hp, hq⟩ => by
    have le := List.countP_mono_left (p := p) (q := q) (l := xs) (fun z hz => h z (List.mem_cons_of_mem _ hz))
    rw [List.countP_cons, List.countP_cons]
    rcases List.mem_cons.1 hy with rfl | hy
    · rw [hp, hq]; simp; omega
    · have := countP_lt xs (fun z hz => h z (List.mem_cons_of_mem _ hz)) ⟨y, hy, hp, hq⟩
      have hx := h x List.mem_cons_self
      cases hpx : p x with
      | true => rw [hx hpx]; simp; omega
      | false => cases q x <;> simp <;> omega
open Classical in
theorem rounds_closed {n : Nat} {cs : List S75} (hc : GoodL n cs) (i : Nat) : ∀ k l, SmallP n l → n ≤ knowN n l i + k → closedS cs (roundsP cs k l) i
  | 0, l, hl, hk => fun c hm h0 => by
    have hall : (List.range n).countP (fun v => bitV l v i) = (List.range n).length := Nat.le_antisymm (List.countP_le_length) (by rw [List.length_range]; unfold knowN at hk; omega)
    rw [List.countP_eq_length] at hall
    obtain ⟨h1, h2, h3, h4⟩ := isLetterB_true (hc c hm)
    exact hall c.f1.toNat (List.mem_range.2 (by omega))
  | k + 1, l, hl, hk => by
    have hs := smallP_foldL cs l hl hc
    by_cases hq : closedS cs l i
    · -- nothing is turned any more
      have still : ∀ k l, SmallP n l → closedS cs l i → closedS cs (roundsP cs k l) i := by
        intro k
        induction k with
        | zero => intro l _ h; exact h
        | succ k ih =>
          intro l hl h
          refine ih _ (smallP_foldL cs l hl hc) (fun c hm h0 => ?_)
          rw [tells_still i cs l hl hc h] at h0 ⊢
          exact h c hm h0
      exact still (k + 1) l hl hq
    · have hx : ∃ c, c ∈ cs ∧ bitV l c.f0.toNat i = true ∧ bitV l c.f1.toNat i = false := by
        refine Classical.byContradiction fun hn => hq (fun c hm h0 => ?_)
        cases h1 : bitV l c.f1.toNat i with
        | true => rfl
        | false => exact absurd ⟨c, hm, h0, h1⟩ hn
      obtain ⟨c, hm, h0, h1⟩ := hx
      obtain ⟨b1, b2, b3, b4⟩ := isLetterB_true (hc c hm)
      have hlt : knowN n l i < knowN n (cs.foldl tellP l) i := countP_lt _ (fun v _ hv => tells_mono cs l hl hc v i hv) ⟨c.f1.toNat, List.mem_range.2 (by omega), h1, tells_close cs l hl hc c hm i h0⟩
      exact rounds_closed hc i k _ hs (by omega)
theorem closed_all {cs : List S75} {l : List Int} {i : Nat} (h : closedS cs l i) (h0 : bitV l i i = true) {v : Nat} (hr : Reach cs i v) : bitV l v i = true := by
  induction hr with
  | refl => exact h0
  | step c _ hm ih => exact h c hm ih
def heardP (n : Nat) (cs : List S75) : List Int := roundsP cs n (startP n)
theorem heardP_iff {n : Nat} {cs : List S75} (hc : GoodL n cs) {v i : Nat} (hv : v < n) (hi : i < n) : bitV (heardP n cs) v i = true ↔ Reach cs i v := by
  have hs := smallP_start n
  constructor
  · -- a bit that is set from the start: only at its own place; what lies behind the list has no bit
    intro h
    refine rounds_sound hc n (startP n) hs (fun v i hb => ?_) v i h
    by_cases hvn : v < n
    · rw [bitV_start n v i hvn] at hb
      have : v = i := by simpa using hb
      subst this; exact Reach.refl
    · exfalso
      unfold bitV at hb
      rw [List.getD_eq_getElem?_getD, List.getElem?_eq_none (by rw [hs.1]; omega)] at hb
      simp at hb
  · intro hr
    refine closed_all (rounds_closed hc i n (startP n) hs (by omega)) (rounds_mono hc n _ hs i i ?_) hr
    rw [bitV_start n i i hi]; simp
theorem heardP_small {n : Nat} {cs : List S75} (hc : GoodL n cs) : SmallP n (heardP n cs) := rounds_small hc n _ (smallP_start n)
/-! the reference: heard[From] |= heard[To] until nothing is turned -/
def raiseP (q : List Int × Bool) (c : S75) : List Int × Bool := if orI (q.1.getD c.f0.toNat 0) (q.1.getD c.f1.toNat 0) = q.1.getD c.f0.toNat 0 then q else (q.1.set c.f0.toNat (orI (q.1.getD c.f0.toNat 0) (q.1.getD c.f1.toNat 0)), true)
theorem orI_ge {a b : Int} (ha : 0 ≤ a) : a ≤ orI a b := by
  have : a.toNat ≤ a.toNat ||| b.toNat := Nat.left_le_or
  unfold orI
  omega
theorem sum_set : ∀ (l : List Int) (u : Nat) (x : Int), u < l.length → (l.set u x).sum = l.sum + (x - l.getD u 0)
  | a :: l, 0, x, _ => by simp only [List.set_cons_zero, List.sum_cons, List.getD_cons_zero]; omega
  | a :: l, u + 1, x, h => by
    have := sum_set l u x (by simpa using h)
    simp only [List.set_cons_succ, List.sum_cons, List.getD_cons_succ]; omega
/-- What holds of the reference's list all along. -/
structure HeardOk (n : Nat) (cs : List S75) (l : List Int) : Prop where
  small : SmallP n l
  sound : ∀ v i, bitV l v i = true → Reach cs v i
  own : ∀ v, v < n → bitV l v v = true
theorem raise_ok {n : Nat} {cs : List S75} {q : List Int × Bool} {c : S75} (h : HeardOk n cs q.1) (hc : isLetterB n c.f0 c.f1 = true) (hm : c ∈ cs) : HeardOk n cs (raiseP q c).1 := by
  obtain ⟨h1, h2, h3, h4⟩ := isLetterB_true hc
  unfold raiseP
  split
  · exact h
  · have hl : c.f0.toNat < q.1.length := by rw [h.small.1]; omega
    refine ⟨smallP_set h.small _ _ (orI_lt (smallP_at h.small _ (by omega)) (smallP_at h.small _ (by omega))), fun v i hb => ?_, fun v hv => ?_⟩
    · rw [bitV_set _ _ _ hl, orI_bit] at hb
      by_cases e : v = c.f0.toNat
      · rw [if_pos e] at hb
        subst e
        rcases Bool.or_eq_true_iff.1 hb with hb | hb
        · exact h.sound _ i hb
        · exact Reach.head hm (h.sound _ i hb)
      · rw [if_neg e] at hb; exact h.sound v i hb
    · rw [bitV_set _ _ _ hl, orI_bit]
      by_cases e : v = c.f0.toNat
      · rw [if_pos e]; have := h.own v hv; unfold bitV at this; rw [← e, this, Bool.true_or]
      · rw [if_neg e]; exact h.own v hv
theorem raises_ok {n : Nat} {cs : List S75} : ∀ (ds : List S75) (q : List Int × Bool), HeardOk n cs q.1 → GoodL n ds → (∀ c ∈ ds, c ∈ cs) → HeardOk n cs (ds.foldl raiseP q).1
  | [], _, h, _, _ => h
  | c :: ds, q, h, hc, hm => raises_ok ds _ (raise_ok h (hc c List.mem_cons_self) (hm c List.mem_cons_self)) (fun d hd => hc d (List.mem_cons_of_mem _ hd)) (fun d hd => hm d (List.mem_cons_of_mem _ hd))
/-- A round's account: what was told as turned stays told; turned means a greater sum; not turned means closed and the list as it was. -/
theorem raises_sum {n : Nat} : ∀ (ds : List S75) (q : List Int × Bool), SmallP n q.1 → GoodL n ds → q.1.sum ≤ (ds.foldl raiseP q).1.sum ∧ (q.2 = true → (ds.foldl raiseP q).2 = true) ∧ ((ds.foldl raiseP q).2 = true → q.2 = false → q.1.sum < (ds.foldl raiseP q).1.sum) ∧ ((ds.foldl raiseP q).2 = false → (ds.foldl raiseP q).1 = q.1 ∧ ∀ c ∈ ds, orI (q.1.getD c.f0.toNat 0) (q.1.getD c.f1.toNat 0) = q.1.getD c.f0.toNat 0)
  | [], q, _, _ => ⟨Int.le_refl _, id, fun (h : q.2 = true) (h' : q.2 = false) => (by rw [h] at h'; cases h'), fun _ => ⟨rfl, fun _ h => by cases h⟩⟩
  | c :: ds, q, hs, hc => by
    obtain ⟨h1, h2, h3, h4⟩ := isLetterB_true (hc c List.mem_cons_self)
    have hl : c.f0.toNat < q.1.length := by rw [hs.1]; omega
    have a1 := smallP_at hs c.f0.toNat (by omega)
    have a2 := smallP_at hs c.f1.toNat (by omega)
    have hc' : GoodL n ds := fun d hd => hc d (List.mem_cons_of_mem _ hd)
    rw [List.foldl_cons]
    by_cases e : orI (q.1.getD c.f0.toNat 0) (q.1.getD c.f1.toNat 0) = q.1.getD c.f0.toNat 0
    · have er : raiseP q c = q := by unfold raiseP; rw [if_pos e]
      rw [er]
      obtain ⟨i1, i2, i3, i4⟩ := raises_sum ds q hs hc'
      refine ⟨i1, i2, i3, fun h => ⟨(i4 h).1, fun d hd => ?_⟩⟩
      rcases List.mem_cons.1 hd with rfl | hd
      · exact e
      · exact (i4 h).2 d hd
    · have er : raiseP q c = (q.1.set c.f0.toNat (orI (q.1.getD c.f0.toNat 0) (q.1.getD c.f1.toNat 0)), true) := by unfold raiseP; rw [if_neg e]
      rw [er]
      obtain ⟨i1, i2, i3, i4⟩ := raises_sum ds (q.1.set c.f0.toNat (orI (q.1.getD c.f0.toNat 0) (q.1.getD c.f1.toNat 0)), true) (smallP_set hs _ _ (orI_lt a1 a2)) hc'
      have hsum := sum_set q.1 c.f0.toNat (orI (q.1.getD c.f0.toNat 0) (q.1.getD c.f1.toNat 0)) hl
      have hge := orI_ge (b := q.1.getD c.f1.toNat 0) a1.1
      have t := i2 rfl
      simp only at i1
      refine ⟨by omega, fun _ => t, fun _ _ => by omega, fun h => ?_⟩
      rw [t] at h; cases h
theorem sum_bound_s {n : Nat} (hn : n ≤ 10) : ∀ (l : List Int), (∀ x ∈ l, 0 ≤ x ∧ x < ((2 ^ n : Nat) : Int)) → l.sum ≤ 1024 * (l.length : Int)
  | [], _ => by simp
  | a :: l, h => by
    have := sum_bound_s hn l (fun x hx => h x (List.mem_cons_of_mem _ hx))
    have h1 := h a List.mem_cons_self
    have h2 : 2 ^ n ≤ 2 ^ 10 := Nat.pow_le_pow_right (by omega) hn
    simp only [List.sum_cons, List.length_cons]
    omega
theorem heard_fix {n : Nat} {cs : List S75} {l : List Int} (h : HeardOk n cs l) (hc : GoodL n cs) (hf : ∀ c ∈ cs, orI (l.getD c.f0.toNat 0) (l.getD c.f1.toNat 0) = l.getD c.f0.toNat 0) {v i : Nat} (hv : v < n) (hi : i < n) : bitV l v i = true ↔ Reach cs v i := by
  refine ⟨h.sound v i, fun hr => ?_⟩
  -- along the arrows backwards
  have key : ∀ {s t : Nat}, Reach cs s t → ∀ i, bitV l t i = true → bitV l s i = true := by
    intro s t hr
    induction hr with
    | refl => intro i h; exact h
    | step c _ hm ih =>
      intro i hb
      refine ih i ?_
      have e := hf c hm
      unfold bitV
      rw [← e, orI_bit]
      unfold bitV at hb
      rw [hb, Bool.or_true]
  exact key hr i (h.own i hi)

theorem heard_l1 {n : Nat} (hn : n ≤ 10) {cs : List S75} (h : cs.length ≤ 1048576) (hc : GoodL n cs) (b a : Int) {r : List Int} : ∀ (d i : Nat) (l : List Int), i + d = cs.length → SmallP n l →
    Ev (fun k => impl_heard.l0 k cs ((cs.drop i).foldl tellP l) b (wrap64 (a + 1))) r → Ev (fun k => impl_heard.l1 k cs l b a cs (cs.length : Int) (i : Int)) r := by
  intro d
  induction d with
  | zero =>
    intro i l hi hs hr
    refine Ev.step (fun k => ?_) hr
    simp only [impl_heard.l1]
    rw [if_neg (by omega), List.drop_eq_nil_of_le (by omega)]
    rfl
  | succ d ih =>
    intro i l hi hs hr
    have hlt : i < cs.length := by omega
    have hm : isLetterB n (cs.getD i z75).f0 (cs.getD i z75).f1 = true := hc _ (by rw [getD_at _ _ _ hlt]; exact List.getElem_mem hlt)
    obtain ⟨b1, b2, b3, b4⟩ := isLetterB_true hm
    have hl := hs.1
    rw [drop_at cs i z75 hlt, List.foldl_cons] at hr
    have ih' := ih (i + 1) (tellP l (cs.getD i z75)) (by omega) (smallP_tell hs _ hm) hr
    refine Ev.step (fun k => ?_) ih'
    simp only [impl_heard.l1, show rd_T75 cs (i : Int) = cs.getD i z75 from rfl]
    rw [if_pos (by omega), if_pos (by omega), if_pos (by omega), if_pos b3, if_pos (by omega), if_pos b1, if_pos (by omega), w64 (x := (i : Int) + 1) (by omega) (by omega)]
    rw [or_u16 (show 0 ≤ rd l (cs.getD i z75).f1 ∧ rd l (cs.getD i z75).f1 < 1024 from smallP_1024 hs hn _ (by omega)) (show 0 ≤ rd l (cs.getD i z75).f0 ∧ rd l (cs.getD i z75).f0 < 1024 from smallP_1024 hs hn _ (by omega))]
    rfl
theorem heard_l0 {n : Nat} (hn : n ≤ 10) {cs : List S75} (h : cs.length ≤ 1048576) (hc : GoodL n cs) : ∀ (d i : Nat) (l : List Int), i + d = n → SmallP n l →
    Ev (fun k => impl_heard.l0 k cs l (n : Int) (i : Int)) (roundsP cs d l) := by
  intro d
  induction d with
  | zero =>
    intro i l hi hs
    refine ev_step (f := fun _ => some l) (fun k => ?_) (ev_now _)
    simp only [impl_heard.l0]; rw [if_neg (by omega)]
  | succ d ih =>
    intro i l hi hs
    refine Ev.step (fun k => by simp only [impl_heard.l0]; rw [if_pos (by omega)]) ?_
    refine heard_l1 hn h hc _ _ cs.length 0 l (by omega) hs ?_
    rw [w64 (by omega) (by omega)]
    exact ih (i + 1) _ (by omega) (smallP_foldL cs l hs hc)
theorem heard_ev {n : Int} {cs : List S75} (h1 : 1 ≤ n) (h2 : n ≤ 10) (h : cs.length ≤ 1048576) (hc : GoodL n.toNat cs) : Ev (fun k => impl_heard.f k n cs) (heardP n.toNat cs) := by
  unfold impl_heard.f
  refine Ev.bind (first_ev n h1 h2) ?_
  have := heard_l0 (n := n.toNat) (by omega) h hc n.toNat 0 _ (by omega) (smallP_start n.toNat)
  rw [show ((n.toNat : Nat) : Int) = n by omega] at this
  exact this
theorem leHeard_l1 {n : Nat} (hn : n ≤ 10) {cs : List S75} (h : cs.length ≤ 1048576) (hc : GoodL n cs) {r : List Int} : ∀ (d i : Nat) (q : List Int × Bool), i + d = cs.length → SmallP n q.1 →
    Ev (fun k => spec_leHeard.l0 k cs ((cs.drop i).foldl raiseP q).1 ((cs.drop i).foldl raiseP q).2) r → Ev (fun k => spec_leHeard.l1 k cs q.1 q.2 cs (cs.length : Int) (i : Int)) r := by
  intro d
  induction d with
  | zero =>
    intro i q hi hs hr
    refine Ev.step (fun k => ?_) hr
    simp only [spec_leHeard.l1]
    rw [if_neg (by omega), List.drop_eq_nil_of_le (by omega)]
    rfl
  | succ d ih =>
    intro i q hi hs hr
    have hlt : i < cs.length := by omega
    have hm : isLetterB n (cs.getD i z75).f0 (cs.getD i z75).f1 = true := hc _ (by rw [getD_at _ _ _ hlt]; exact List.getElem_mem hlt)
    obtain ⟨b1, b2, b3, b4⟩ := isLetterB_true hm
    have hl := hs.1
    rw [drop_at cs i z75 hlt, List.foldl_cons] at hr
    have hs' : SmallP n (raiseP q (cs.getD i z75)).1 := by
      unfold raiseP
      split
      · exact hs
      · exact smallP_set hs _ _ (orI_lt (smallP_at hs _ (by omega)) (smallP_at hs _ (by omega)))
    have ih' := ih (i + 1) (raiseP q (cs.getD i z75)) (by omega) hs' hr
    refine Ev.step (fun k => ?_) ih'
    simp only [spec_leHeard.l1, show rd_T75 cs (i : Int) = cs.getD i z75 from rfl]
    rw [if_pos (by omega), if_pos (by omega), if_pos (by omega), if_pos b1, if_pos (by omega), if_pos b3, if_pos (by omega), w64 (x := (i : Int) + 1) (by omega) (by omega)]
    rw [or_i64 (show 0 ≤ rd q.1 (cs.getD i z75).f0 ∧ rd q.1 (cs.getD i z75).f0 < 1024 from smallP_1024 hs hn _ (by omega)) (show 0 ≤ rd q.1 (cs.getD i z75).f1 ∧ rd q.1 (cs.getD i z75).f1 < 1024 from smallP_1024 hs hn _ (by omega))]
    by_cases e : orI (q.1.getD (cs.getD i z75).f0.toNat 0) (q.1.getD (cs.getD i z75).f1.toNat 0) = q.1.getD (cs.getD i z75).f0.toNat 0
    · have er : raiseP q (cs.getD i z75) = q := by unfold raiseP; rw [if_pos e]
      rw [er, if_pos (show orI (rd q.1 (cs.getD i z75).f0) (rd q.1 (cs.getD i z75).f1) = rd q.1 (cs.getD i z75).f0 from e)]
      rfl
    · have er : raiseP q (cs.getD i z75) = (q.1.set (cs.getD i z75).f0.toNat (orI (q.1.getD (cs.getD i z75).f0.toNat 0) (q.1.getD (cs.getD i z75).f1.toNat 0)), true) := by unfold raiseP; rw [if_neg e]
      rw [er, if_neg (show ¬ orI (rd q.1 (cs.getD i z75).f0) (rd q.1 (cs.getD i z75).f1) = rd q.1 (cs.getD i z75).f0 from e)]
      rfl
theorem leHeard_l0 {n : Nat} (hn : n ≤ 10) {cs : List S75} (h : cs.length ≤ 1048576) (hc : GoodL n cs) : ∀ (d : Nat) (l : List Int), HeardOk n cs l → 10241 - l.sum ≤ (d : Int) →
    ∃ r, HeardOk n cs r ∧ (∀ c ∈ cs, orI (r.getD c.f0.toNat 0) (r.getD c.f1.toNat 0) = r.getD c.f0.toNat 0) ∧ Ev (fun k => spec_leHeard.l0 k cs l true) r := by
  intro d
  induction d with
  | zero =>
    intro l hl hd
    exfalso
    have := sum_bound_s hn l hl.small.2
    rw [hl.small.1] at this
    omega
  | succ d ih =>
    intro l hl hd
    have hq := raises_ok (n := n) (cs := cs) cs (l, false) hl hc (fun _ h => h)
    obtain ⟨i1, i2, i3, i4⟩ := raises_sum (n := n) cs (l, false) hl.small hc
    have st : ∀ r, Ev (fun k => spec_leHeard.l0 k cs (cs.foldl raiseP (l, false)).1 (cs.foldl raiseP (l, false)).2) r → Ev (fun k => spec_leHeard.l0 k cs l true) r := fun r hr => by
      refine Ev.step (fun k => by simp only [spec_leHeard.l0, if_true] <;> exact rfl) ?_
      exact leHeard_l1 hn h hc cs.length 0 (l, false) (by omega) hl.small hr
    cases hb : (cs.foldl raiseP (l, false)).2 with
    | false =>
      have i5 := i4 hb
      refine ⟨l, hl, i5.2, st l ?_⟩
      rw [hb, i5.1]
      refine ev_step (f := fun _ => some l) (fun k => ?_) (ev_now _)
      simp only [spec_leHeard.l0, Bool.false_eq_true, if_false]
    | true =>
      have i6 := i3 hb rfl
      obtain ⟨r, r1, r2, r3⟩ := ih _ hq (by simp only at i6; omega)
      exact ⟨r, r1, r2, st r (by rw [hb]; exact r3)⟩
theorem leHeard_ev {n : Int} {cs : List S75} (h1 : 1 ≤ n) (h2 : n ≤ 10) (h : cs.length ≤ 1048576) (hc : GoodL n.toNat cs) :
    ∃ r, SmallP n.toNat r ∧ (∀ v i, v < n.toNat → i < n.toNat → (bitV r v i = true ↔ Reach cs v i)) ∧ Ev (fun k => spec_leHeard.f k n cs) r := by
  have h0 : HeardOk n.toNat cs (startP n.toNat) := by
    refine ⟨smallP_start _, fun v i hb => ?_, fun v hv => by rw [bitV_start _ _ _ hv]; simp⟩
    by_cases hvn : v < n.toNat
    · rw [bitV_start _ v i hvn] at hb
      have : v = i := by simpa using hb
      subst this; exact Reach.refl
    · exfalso
      unfold bitV at hb
      rw [List.getD_eq_getElem?_getD, List.getElem?_eq_none (by rw [(smallP_start n.toNat).1]; omega)] at hb
      simp at hb
  obtain ⟨r, r1, r2, r3⟩ := leHeard_l0 (n := n.toNat) (by omega) h hc (10241 - (startP n.toNat).sum).toNat (startP n.toNat) h0 (by omega)
  refine ⟨r, r1.small, fun v i hv hi => heard_fix r1 hc r2 hv hi, ?_⟩
  unfold spec_leHeard.f
  exact Ev.bind (caStart_ev n h1 h2) r3

def arrowsB (n : Int) (cs : List S75) : Bool := areLettersB n cs && decide (n ≤ 8)
theorem arrowsB_true {n : Int} {cs : List S75} (h : arrowsB n cs = true) : 1 ≤ n ∧ n ≤ 8 ∧ cs.length ≤ 60 ∧ GoodL n.toNat cs := by
  simp only [arrowsB, Bool.and_eq_true, decide_eq_true_eq] at h
  obtain ⟨h1, h2, h3, h4⟩ := areLettersB_true h.1
  exact ⟨h1, h.2, h3, fun c hc => by rw [show ((n.toNat : Nat) : Int) = n by omega]; exact h4 c hc⟩
theorem leArrows_ev (n : Int) (cs : List S75) (h : cs.length ≤ 1048576) : Ev (fun k => spec_leArrows.f k n cs) (arrowsB n cs) := by
  unfold spec_leArrows.f
  refine Ev.bind (leGood_ev n cs h) ?_
  unfold arrowsB
  cases areLettersB n cs with
  | false => simpa using ev_now _
  | true => simpa using ev_now _
theorem areArrows_f (n : Int) (cs : List S75) : impl_areArrows.f n cs = some (arrowsB n cs) := by
  unfold impl_areArrows.f impl_AreLetters.f arrowsB
  by_cases h : n ≤ 8
  · simp [h]
  · simp [h]

/-! rows of rows: compared, marked -/
def totI : List (List Int) → Int
  | [] => 0
  | r :: rs => (r.length : Int) + totI rs
def markedRI : List (List Int) → Int → List (List Int)
  | [], _ => []
  | r :: rs, m => markedI r.length m :: markedRI rs (m + (r.length : Int))
def RowsI (l : List (List Int)) : Prop := l.length ≤ 1048576 ∧ ∀ r ∈ l, r.length ≤ 1048576
theorem totI_nonneg : ∀ (l : List (List Int)), 0 ≤ totI l
  | [] => Int.le_refl _
  | r :: rs => by have := totI_nonneg rs; simp only [totI]; omega
theorem totI_le (b : Nat) : ∀ (l : List (List Int)), (∀ r ∈ l, r.length ≤ b) → totI l ≤ (b : Int) * l.length
  | [], _ => by simp [totI]
  | r :: rs, h => by
    have h1 := totI_le b rs (fun x hx => h x (List.mem_cons_of_mem _ hx))
    have h2 := h r (List.mem_cons_self)
    have e : (b : Int) * ((r :: rs).length : Nat) = (b : Int) * (rs.length : Nat) + (b : Int) := by
      rw [List.length_cons, Int.natCast_succ, Int.mul_add, Int.mul_one]
    rw [e]
    simp only [totI]
    omega
theorem eqIntSS_l0 : ∀ (rest done : List (List Int)), done.length + rest.length ≤ 1048576 → (∀ r ∈ rest, r.length ≤ 1048576) →
    Ev (fun k => laws_eqIntSS.l0 k (done ++ rest) (done ++ rest) (done.length : Int)) true
  | [], done, h, _ => by
    refine ev_step (f := fun _ => some true) (fun k => ?_) (ev_now _)
    simp only [laws_eqIntSS.l0]
    rw [if_neg (by simp)]
  | r :: rest, done, h, hr => by
    simp only [List.length_cons] at h
    have e : rd_L3 (done ++ r :: rest) (done.length : Int) = r := by
      show (done ++ r :: rest).getD ((done.length : Int)).toNat [] = r
      rw [Int.toNat_natCast, getD_len]
    refine ev_step (f := fun k => (laws_eqIntS.f k r r).bind fun t => if t = true then laws_eqIntSS.l0 k (done ++ r :: rest) (done ++ r :: rest) ((done.length : Int) + 1) else some false) (fun k => ?_) ?_
    · simp only [laws_eqIntSS.l0, e]
      rw [if_pos (by rw [List.length_append, List.length_cons]; omega), if_pos (by omega), if_pos (by rw [List.length_append, List.length_cons]; omega), w64 (by omega) (by omega)]
    · refine Ev.bind (eqIntS_ev r (hr r (List.mem_cons_self))) ?_
      simp only [if_true]
      have := eqIntSS_l0 rest (done ++ [r]) (by rw [List.length_append, List.length_singleton]; omega) (fun x hx => hr x (List.mem_cons_of_mem _ hx))
      rw [List.append_assoc, List.singleton_append, List.length_append, List.length_singleton] at this
      simpa using this
theorem eqIntSS_ev (a : List (List Int)) (h : RowsI a) : Ev (fun k => laws_eqIntSS.f k a a) true := by
  unfold laws_eqIntSS.f
  simp only [if_true]
  have := eqIntSS_l0 a [] (by simpa using h.1) h.2
  simpa using this
theorem markIntSS_l0 : ∀ (rest done : List (List Int)) (m : Int), done.length + rest.length ≤ 1048576 → (∀ r ∈ rest, r.length ≤ 1048576) → 0 ≤ m → m + totI rest ≤ 1099511627776 →
    Ev (fun k => laws_markIntSS.l0 k (done ++ rest) m (done.length : Int)) (m + totI rest, done ++ markedRI rest m)
  | [], done, m, h, _, _, _ => by
    refine ev_step (f := fun _ => some (m, done ++ [])) (fun k => ?_) ?_
    · simp only [laws_markIntSS.l0]
      rw [if_neg (by simp)]
    · simp only [totI, Int.add_zero, markedRI]; exact ev_now _
  | r :: rest, done, m, h, hr, hm, hb => by
    simp only [List.length_cons] at h
    simp only [totI] at hb
    have hn := totI_nonneg rest
    refine ev_step (f := fun k => (laws_markIntS.f k r m).bind fun t => laws_markIntSS.l0 k ((done ++ r :: rest).set done.length t.2) t.1 ((done.length : Int) + 1)) (fun k => ?_) ?_
    · simp only [laws_markIntSS.l0, Int.toNat_natCast, getD_len]
      rw [if_pos (by rw [List.length_append, List.length_cons]; omega), if_pos (by omega), w64 (by omega) (by omega)]
    · refine Ev.bind (markIntS_ev r m (hr r (List.mem_cons_self)) hm (by omega)) ?_
      have := markIntSS_l0 rest (done ++ [markedI r.length m]) (m + (r.length : Int)) (by rw [List.length_append, List.length_singleton]; omega) (fun x hx => hr x (List.mem_cons_of_mem _ hx)) (by omega) (by omega)
      rw [List.append_assoc, List.singleton_append, List.length_append, List.length_singleton] at this
      simp only [set_len, totI, markedRI]
      rw [List.append_assoc, List.singleton_append, Int.add_assoc] at this
      simpa using this
theorem markIntSS_ev (l : List (List Int)) (m : Int) (h : RowsI l) (hm : 0 ≤ m) (hb : m + totI l ≤ 1099511627776) : Ev (fun k => laws_markIntSS.f k l m) (m + totI l, markedRI l m) := by
  unfold laws_markIntSS.f
  have := markIntSS_l0 l [] m (by simpa using h.1) h.2 hm hb
  simpa using this
theorem heldIntSS_l0 : ∀ (rest done : List (List Int)) (m : Int), done.length + rest.length ≤ 1048576 → (∀ r ∈ rest, r.length ≤ 1048576) → 0 ≤ m → m + totI rest ≤ 1099511627776 →
    Ev (fun k => laws_heldIntSS.l0 k (done ++ markedRI rest m) m (done.length : Int)) (m + totI rest)
  | [], done, m, h, _, _, _ => by
    show Ev (fun k => laws_heldIntSS.l0 k (done ++ []) m (done.length : Int)) (m + totI [])
    refine ev_step (f := fun _ => some m) (fun k => ?_) ?_
    · have hh : ¬ ((done.length : Int) < ((done ++ ([] : List (List Int))).length : Int)) := by simp
      simp only [laws_heldIntSS.l0]
      rw [if_neg hh]
    · simp only [totI, Int.add_zero]; exact ev_now _
  | r :: rest, done, m, h, hr, hm, hb => by
    simp only [List.length_cons] at h
    simp only [totI] at hb
    have hn := totI_nonneg rest
    have e : rd_L3 (done ++ markedI r.length m :: markedRI rest (m + (r.length : Int))) (done.length : Int) = markedI r.length m := by
      show (done ++ markedI r.length m :: markedRI rest (m + (r.length : Int))).getD ((done.length : Int)).toNat [] = _
      rw [Int.toNat_natCast, getD_len]
    show Ev (fun k => laws_heldIntSS.l0 k (done ++ markedI r.length m :: markedRI rest (m + (r.length : Int))) m (done.length : Int)) _
    refine ev_step (f := fun k => (laws_heldIntS.f k (markedI r.length m) m).bind fun t => if t < 0 then some (-1) else laws_heldIntSS.l0 k (done ++ markedI r.length m :: markedRI rest (m + (r.length : Int))) t ((done.length : Int) + 1)) (fun k => ?_) ?_
    · simp only [laws_heldIntSS.l0, e]
      rw [if_pos (by rw [List.length_append, List.length_cons]; omega), if_pos (by omega), w64 (by omega) (by omega)]
    · refine Ev.bind (heldIntS_ev r.length m (hr r (List.mem_cons_self)) hm (by omega)) ?_
      have hp : ¬ m + (r.length : Int) < 0 := by omega
      simp only [if_neg hp]
      have := heldIntSS_l0 rest (done ++ [markedI r.length m]) (m + (r.length : Int)) (by rw [List.length_append, List.length_singleton]; omega) (fun x hx => hr x (List.mem_cons_of_mem _ hx)) (by omega) (by omega)
      rw [List.append_assoc, List.singleton_append, List.length_append, List.length_singleton] at this
      simp only [totI]
      rw [Int.add_assoc] at this
      simpa using this
theorem heldIntSS_ev (l : List (List Int)) (m : Int) (h : RowsI l) (hm : 0 ≤ m) (hb : m + totI l ≤ 1099511627776) : Ev (fun k => laws_heldIntSS.f k (markedRI l m) m) (m + totI l) := by
  unfold laws_heldIntSS.f
  have := heldIntSS_l0 l [] m (by simpa using h.1) h.2 hm hb
  simpa using this
theorem rowsI_tot {l : List (List Int)} (h1 : l.length ≤ 1000) (h2 : ∀ r ∈ l, r.length ≤ 1048576) : RowsI l ∧ 1 + totI l ≤ 1099511627776 := by
  refine ⟨⟨by omega, h2⟩, ?_⟩
  have := totI_le 1048576 l h2
  omega


theorem Reach.trans {cs : List S75} {a b c : Nat} (h1 : Reach cs a b) (h2 : Reach cs b c) : Reach cs a c := by
  induction h2 with
  | refl => exact h1
  | step c _ hc ih => exact Reach.step c ih hc
/-- Two friends who can hear from each other. -/
def mutB (l : List Int) (i j : Nat) : Bool := bitV l i j && bitV l j i
def seenB (l : List Int) (i x : Nat) : Bool := (List.range i).any fun a => mutB l a x
def groupP (n : Nat) (l : List Int) (i : Nat) : List Int := Go.Proofs.Ytelhjfalkhmhkaa.H.idxs (mutB l i) n
def groupsP (n : Nat) (l : List Int) (i : Nat) : List (List Int) := ((List.range i).filter fun a => !seenB l a a).map (groupP n l)
theorem groups_t {n : Nat} {l : List Int} {i : Nat} (h : seenB l i i = false) : groupsP n l (i + 1) = groupsP n l i ++ [groupP n l i] := by
  unfold groupsP
  rw [List.range_succ, List.filter_append, List.map_append, List.filter_cons, if_pos (by rw [h]; rfl)]
  rfl
theorem groups_f {n : Nat} {l : List Int} {i : Nat} (h : seenB l i i = true) : groupsP n l (i + 1) = groupsP n l i := by
  unfold groupsP
  rw [List.range_succ, List.filter_append, List.map_append, List.filter_cons, if_neg (by rw [h]; exact Bool.false_ne_true)]
  simp
theorem groups_len (n : Nat) (l : List Int) (i : Nat) : (groupsP n l i).length ≤ i := by
  have := List.length_filter_le (fun a => !seenB l a a) (List.range i)
  simpa [groupsP] using this
theorem mut_symm (l : List Int) (i j : Nat) : mutB l i j = mutB l j i := by unfold mutB; rw [Bool.and_comm]
theorem mut_reach {n : Nat} {cs : List S75} (hc : GoodL n cs) {i j : Nat} (hi : i < n) (hj : j < n) : mutB (heardP n cs) i j = true ↔ Reach cs i j ∧ Reach cs j i := by
  unfold mutB
  rw [Bool.and_eq_true, heardP_iff hc hi hj, heardP_iff hc hj hi]
  exact And.comm
theorem mut_same {n : Nat} {cs : List S75} (hc : GoodL n cs) {r : List Int} (hr : ∀ v i, v < n → i < n → (bitV r v i = true ↔ Reach cs v i)) {i j : Nat} (hi : i < n) (hj : j < n) : mutB r i j = mutB (heardP n cs) i j := by
  rw [Bool.eq_iff_iff, mut_reach hc hi hj]
  unfold mutB
  rw [Bool.and_eq_true, hr i j hi hj, hr j i hj hi]
theorem mut_refl {n : Nat} {cs : List S75} (hc : GoodL n cs) {i : Nat} (hi : i < n) : mutB (heardP n cs) i i = true := (mut_reach hc hi hi).2 ⟨Reach.refl, Reach.refl⟩
theorem mut_trans {n : Nat} {cs : List S75} (hc : GoodL n cs) {a b c : Nat} (ha : a < n) (hb : b < n) (hcn : c < n) (h1 : mutB (heardP n cs) a b = true) (h2 : mutB (heardP n cs) b c = true) : mutB (heardP n cs) a c = true := by
  rw [mut_reach hc ha hb] at h1
  rw [mut_reach hc hb hcn] at h2
  exact (mut_reach hc ha hcn).2 ⟨h1.1.trans h2.1, h2.2.trans h1.2⟩
/-- The first of a group is its least. -/
theorem group_first {n : Nat} {cs : List S75} (hc : GoodL n cs) {i : Nat} (hi : i < n) : 0 < (groupP n (heardP n cs) i).length ∧ ((groupP n (heardP n cs) i).getD 0 0 = (i : Int) ↔ seenB (heardP n cs) i i = false) := by
  have hh : ((List.range n).filter (mutB (heardP n cs) i)).head? = (List.range n).find? (mutB (heardP n cs) i) := List.head?_filter
  cases hf : (List.range n).find? (mutB (heardP n cs) i) with
  | none =>
    have := List.find?_eq_none.1 hf i (List.mem_range.2 hi)
    rw [mut_refl hc hi] at this
    exact absurd rfl this
  | some a =>
    rw [hf] at hh
    have h0 := List.find?_range_eq_some.1 hf
    obtain ⟨p1, p2, p3⟩ := h0
    cases hl : (List.range n).filter (mutB (heardP n cs) i) with
    | nil => rw [hl] at hh; cases hh
    | cons b bs =>
      rw [hl] at hh
      have hb : b = a := by simpa using hh
      subst hb
      have e : groupP n (heardP n cs) i = (b : Int) :: bs.map Int.ofNat := by unfold groupP Go.Proofs.Ytelhjfalkhmhkaa.H.idxs; rw [hl]; rfl
      rw [e]
      refine ⟨by simp, ?_⟩
      show ((b : Int) = (i : Int)) ↔ _
      have e2 : ((b : Int) = (i : Int)) ↔ b = i := by omega
      rw [e2]
      constructor
      · rintro rfl
        rw [Bool.eq_false_iff]
        intro hs
        obtain ⟨a, ha, hm⟩ := List.any_eq_true.1 hs
        have ha' := List.mem_range.1 ha
        have := p3 a ha'
        rw [mut_symm] at hm
        rw [hm] at this
        cases this
      · intro hs
        have hle : ¬ i < b := fun hlt => by
          have := p3 i hlt
          rw [mut_refl hc hi] at this
          cases this
        have hge : ¬ b < i := fun hlt => by
          have : seenB (heardP n cs) i i = true := List.any_eq_true.2 ⟨b, List.mem_range.2 hlt, by rw [mut_symm]; exact p1⟩
          rw [hs] at this
          cases this
        omega
def resP (n : Int) (cs : List S75) : List (List Int) × Bool := if arrowsB n cs = true then (groupsP n.toNat (heardP n.toNat cs) n.toNat, true) else ([], false)
theorem resP_rows (n : Int) (cs : List S75) (h : cs.length ≤ 1048576) : RowsI (resP n cs).1 ∧ 1 + totI (resP n cs).1 ≤ 1099511627776 := by
  unfold resP
  split
  · rename_i hg
    obtain ⟨h1, h2, h3, h4⟩ := arrowsB_true hg
    have hl := groups_len n.toNat (heardP n.toNat cs) n.toNat
    refine rowsI_tot (by show (groupsP _ _ _).length ≤ _; omega) (fun r hr => ?_)
    obtain ⟨a, _, rfl⟩ := List.mem_map.1 hr
    have := Go.Proofs.Ytelhjfalkhmhkaa.H.idxs_len (mutB (heardP n.toNat cs) a) n.toNat
    show (Go.Proofs.Ytelhjfalkhmhkaa.H.idxs _ _).length ≤ _
    omega
  · exact rowsI_tot (by simp) (by simp)
/-! the reference: friends are seen -/
def seenL (n : Nat) (f : Nat → Bool) : List Bool := (List.range n).map f
theorem seenL_congr {n : Nat} {f g : Nat → Bool} (h : ∀ x, x < n → f x = g x) : seenL n f = seenL n g := List.map_congr_left (fun x hx => h x (List.mem_range.1 hx))
theorem seenL_set (n : Nat) (f : Nat → Bool) (j : Nat) : (seenL n f).set j true = seenL n fun x => f x || decide (x = j) := by
  refine ext_getD false (by simp [seenL]) (fun i hi => ?_)
  have hi' : i < n := by simpa [seenL] using hi
  rw [getD_set _ _ _ _ _ (by simpa [seenL] using hi')]
  unfold seenL
  rw [getD_range_map _ _ _ _ hi', getD_range_map _ _ _ _ hi']
  by_cases e : j = i
  · rw [if_pos e]; simp [e]
  · rw [if_neg e]
    have : decide (i = j) = false := by simp; omega
    rw [this, Bool.or_false]
theorem bit64 {r : List Int} {n : Nat} (hn : n ≤ 10) (hs : SmallP n r) {v i : Nat} (hv : v < n) (hi : i < n) : (Go.bits .and .i64 (shr .i64 (rd r (v : Int)) (i : Int)) 1 = 1) = (bitV r v i = true) :=
  bit_i64 (x := rd r (v : Int)) (a := (i : Int)) (smallP_1024 hs hn v hv) (by omega) (by omega)
theorem spec_l1 {n : Nat} (hn : n ≤ 10) {r : List Int} (hs : SmallP n r) (out : List (List Int)) (f : Nat → Bool) (i : Nat) (hi : i < n) (hout : out.length ≤ 1000) {R : List (List Int) × Bool}
    (h : Ev (fun k => spec_SilentGroups.l0 k r (out ++ [Go.Proofs.Ytelhjfalkhmhkaa.H.idxs (mutB r i) n]) (seenL n fun x => f x || mutB r i x) (n : Int) ((i : Int) + 1)) R) : ∀ (d j : Nat), j + d = n →
    Ev (fun k => spec_SilentGroups.l1 k r out (seenL n fun x => f x || (decide (x < j) && mutB r i x)) (i : Int) (Go.Proofs.Ytelhjfalkhmhkaa.H.idxs (mutB r i) j) (n : Int) (i : Int) (n : Int) (j : Int)) R := by
  intro d
  have hl := hs.1
  induction d with
  | zero =>
    intro j hj
    have e : j = n := by omega
    subst e
    have q : out.length < 5864062014805 := by omega
    refine Ev.step (fun k => by simp only [spec_SilentGroups.l1, if_neg (Int.lt_irrefl _), if_pos q, w64 (show -9223372036854775808 ≤ (i : Int) + 1 by omega) (by omega)] <;> exact rfl) ?_
    have e2 : (seenL j fun x => f x || (decide (x < j) && mutB r i x)) = seenL j fun x => f x || mutB r i x := seenL_congr (fun x hx => by simp [hx])
    rw [e2]
    exact h
  | succ d ih =>
    intro j hj
    have hlen := Go.Proofs.Ytelhjfalkhmhkaa.H.idxs_len (mutB r i) j
    have q1 : (j : Int) < (n : Int) := by omega
    have q2 : (0 : Int) ≤ (i : Int) := by omega
    have q3 : (i : Int) < (r.length : Int) := by omega
    have q4 : (0 : Int) ≤ (j : Int) := by omega
    have q5 : (j : Int) < (r.length : Int) := by omega
    have q6 : ∀ g : Nat → Bool, (j : Int) < ((seenL n g).length : Int) := fun g => by simp [seenL]; omega
    have q7 : (Go.Proofs.Ytelhjfalkhmhkaa.H.idxs (mutB r i) j).length < 17592186044416 := by omega
    have e := w64 (show -9223372036854775808 ≤ (j : Int) + 1 by omega) (by omega)
    have ih' := ih (j + 1) (by omega)
    by_cases b1 : bitV r i j = true
    · by_cases b2 : bitV r j i = true
      · have hm : mutB r i j = true := by unfold mutB; rw [b1, b2]; rfl
        refine Ev.step (fun k => by simp only [spec_SilentGroups.l1, bit64 hn hs hi (show j < n by omega), bit64 hn hs (show j < n by omega) hi, if_pos q1, if_pos q2, if_pos q3, if_pos q4, if_pos q5, if_pos (q6 _), if_pos q7, if_pos b1, if_pos b2, e, Int.toNat_natCast] <;> exact rfl) ?_
        rw [seenL_set, ← Go.Proofs.Ytelhjfalkhmhkaa.H.idxs_t hm]
        have e2 : (seenL n fun x => (f x || (decide (x < j) && mutB r i x)) || decide (x = j)) = seenL n fun x => f x || (decide (x < j + 1) && mutB r i x) := seenL_congr (fun x hx => by
          by_cases ex : x = j
          · subst ex; simp [hm]
          · have e3 : decide (x < j + 1) = decide (x < j) := by rw [decide_eq_decide]; omega
            have e4 : decide (x = j) = false := by simp [ex]
            rw [e3, e4, Bool.or_false])
        rw [e2]
        exact ih'
      · have hm : mutB r i j = false := by unfold mutB; rw [Bool.eq_false_iff.2 b2, Bool.and_false]
        refine Ev.step (fun k => by simp only [spec_SilentGroups.l1, bit64 hn hs hi (show j < n by omega), bit64 hn hs (show j < n by omega) hi, if_pos q1, if_pos q2, if_pos q3, if_pos q4, if_pos q5, if_pos b1, if_neg b2, e] <;> exact rfl) ?_
        rw [← Go.Proofs.Ytelhjfalkhmhkaa.H.idxs_f hm]
        have e2 : (seenL n fun x => f x || (decide (x < j) && mutB r i x)) = seenL n fun x => f x || (decide (x < j + 1) && mutB r i x) := seenL_congr (fun x hx => by
          by_cases ex : x = j
          · subst ex; simp [hm]
          · have e3 : decide (x < j + 1) = decide (x < j) := by rw [decide_eq_decide]; omega
            rw [e3])
        rw [e2]
        exact ih'
    · have hm : mutB r i j = false := by unfold mutB; rw [Bool.eq_false_iff.2 b1, Bool.false_and]
      refine Ev.step (fun k => by simp only [spec_SilentGroups.l1, bit64 hn hs hi (show j < n by omega), if_pos q1, if_pos q2, if_pos q3, if_pos q4, if_neg b1, e] <;> exact rfl) ?_
      rw [← Go.Proofs.Ytelhjfalkhmhkaa.H.idxs_f hm]
      have e2 : (seenL n fun x => f x || (decide (x < j) && mutB r i x)) = seenL n fun x => f x || (decide (x < j + 1) && mutB r i x) := seenL_congr (fun x hx => by
        by_cases ex : x = j
        · subst ex; simp [hm]
        · have e3 : decide (x < j + 1) = decide (x < j) := by rw [decide_eq_decide]; omega
          rw [e3])
      rw [e2]
      exact ih'
theorem seen_succ (l : List Int) (i x : Nat) : seenB l (i + 1) x = (seenB l i x || mutB l i x) := by unfold seenB; rw [List.range_succ, List.any_append]; simp
theorem spec_l0 {n : Nat} (hn : n ≤ 10) {cs : List S75} (hc : GoodL n cs) {r : List Int} (hs : SmallP n r) (hr : ∀ v i, v < n → i < n → (bitV r v i = true ↔ Reach cs v i)) : ∀ (d i : Nat), i + d = n →
    Ev (fun k => spec_SilentGroups.l0 k r (groupsP n (heardP n cs) i) (seenL n (seenB (heardP n cs) i)) (n : Int) (i : Int)) (groupsP n (heardP n cs) n, true) := by
  intro d
  have hl := hs.1
  induction d with
  | zero =>
    intro i hi
    have e : i = n := by omega
    subst e
    refine Ev.step (fun k => by simp only [spec_SilentGroups.l0, if_neg (Int.lt_irrefl _)] <;> exact rfl) (ev_now _)
  | succ d ih =>
    intro i hi
    have ih' := ih (i + 1) (by omega)
    have q1 : (i : Int) < (n : Int) := by omega
    have q2 : (0 : Int) ≤ (i : Int) := by omega
    have q3 : (i : Int) < ((seenL n (seenB (heardP n cs) i)).length : Int) := by simp [seenL]; omega
    have e := w64 (show -9223372036854775808 ≤ (i : Int) + 1 by omega) (by omega)
    have e1 : rdOf false (seenL n (seenB (heardP n cs) i)) (i : Int) = seenB (heardP n cs) i i := by
      show (seenL n (seenB (heardP n cs) i)).getD ((i : Int)).toNat false = _
      rw [Int.toNat_natCast]
      unfold seenL
      rw [getD_range_map _ _ _ _ (by omega)]
    have hlen := groups_len n (heardP n cs) i
    cases hq : seenB (heardP n cs) i i with
    | true =>
      refine Ev.step (fun k => by simp only [spec_SilentGroups.l0, if_pos q1, if_pos q2, if_pos q3, e1, hq, if_true, e] <;> exact rfl) ?_
      rw [groups_f hq] at ih'
      have e2 : seenL n (seenB (heardP n cs) i) = seenL n (seenB (heardP n cs) (i + 1)) := seenL_congr (fun x hx => by
        rw [seen_succ]
        cases hm : mutB (heardP n cs) i x with
        | false => rw [Bool.or_false]
        | true =>
          rw [Bool.or_true]
          obtain ⟨a, ha, hai⟩ := List.any_eq_true.1 hq
          have ha' := List.mem_range.1 ha
          exact List.any_eq_true.2 ⟨a, ha, mut_trans hc (by omega) (by omega) hx hai hm⟩)
      rw [e2]
      exact ih'
    | false =>
      refine Ev.step (fun k => by simp only [spec_SilentGroups.l0, if_pos q1, if_pos q2, if_pos q3, e1, hq, Bool.false_eq_true, if_false] <;> exact rfl) ?_
      rw [hl]
      have e3 : (Go.Proofs.Ytelhjfalkhmhkaa.H.idxs (mutB r i) n) = groupP n (heardP n cs) i := Go.Proofs.Ytelhjfalkhmhkaa.H.idxs_congr n (fun j hj => mut_same hc hr (by omega) hj)
      have := spec_l1 hn hs (groupsP n (heardP n cs) i) (seenB (heardP n cs) i) i (by omega) (by omega) (R := (groupsP n (heardP n cs) n, true)) (by
        rw [e3, ← groups_t hq]
        have e4 : (seenL n fun x => seenB (heardP n cs) i x || mutB r i x) = seenL n (seenB (heardP n cs) (i + 1)) := seenL_congr (fun x hx => by rw [seen_succ, mut_same hc hr (by omega) hx])
        rw [e4]
        exact ih') n 0 (by omega)
      have e5 : (seenL n fun x => seenB (heardP n cs) i x || (decide (x < 0) && mutB r i x)) = seenL n (seenB (heardP n cs) i) := seenL_congr (fun x hx => by simp)
      rw [e5] at this
      exact this
theorem spec_ev (n : Int) (cs : List S75) (h : cs.length ≤ 1048576) : Ev (fun k => spec_SilentGroups.f k n cs) (resP n cs) := by
  unfold spec_SilentGroups.f resP
  refine Ev.bind (leArrows_ev n cs h) ?_
  cases hg : arrowsB n cs with
  | false => simpa using ev_now _
  | true =>
    obtain ⟨h1, h2, h3, h4⟩ := arrowsB_true hg
    obtain ⟨r, r1, r2, r3⟩ := leHeard_ev h1 (by omega) h h4
    simp only [if_true]
    refine Ev.bind r3 ?_
    have q1 : 0 ≤ n := by omega
    have q2 : n.toNat ≤ 281474976710656 := by omega
    simp only [if_pos q1, if_pos q2]
    have := spec_l0 (by omega) h4 r1 r2 n.toNat 0 (by omega)
    have e : seenL n.toNat (seenB (heardP n.toNat cs) 0) = List.replicate n.toNat false := by
      unfold seenL
      rw [List.eq_replicate_iff]
      refine ⟨by simp, fun b hb => ?_⟩
      obtain ⟨x, _, rfl⟩ := List.mem_map.1 hb
      rfl
    rw [e] at this
    rw [show (r.length : Int) = ((n.toNat : Nat) : Int) by rw [r1.1]]
    exact this
theorem lit_ev {n : Nat} (hn : n ≤ 10) {l : List Int} (hs : SmallP n l) (i : Nat) (hi : i < n) (j : Nat) (hj : j < n) : impl_SilentGroupsLit1.f (j : Int) l (i : Int) = some (mutB l i j) := by
  unfold impl_SilentGroupsLit1.f
  have hl := hs.1
  have q1 : (0 : Int) ≤ (i : Int) := by omega
  have q2 : (i : Int) < (l.length : Int) := by omega
  have q3 : (0 : Int) ≤ (j : Int) := by omega
  have q4 : (j : Int) < (l.length : Int) := by omega
  have b1 := bit_u16 (x := rd l (i : Int)) (a := (j : Int)) (smallP_1024 hs hn i hi) (by omega) (by omega)
  have b2 := bit_u16 (x := rd l (j : Int)) (a := (i : Int)) (smallP_1024 hs hn j hj) (by omega) (by omega)
  simp only [if_pos q1, if_pos q2, if_pos q3, if_pos q4, b1]
  have e2 : (Go.bits .and .u16 (shr .u16 (rd l (j : Int)) (i : Int)) 1 == 1) = bitV l j i := by
    rw [Bool.eq_iff_iff, beq_iff_eq, b2]
    exact Iff.rfl
  rw [e2]
  by_cases hb : bitB (rd l (i : Int)) (j : Int) = true
  · rw [if_pos hb]
    have : bitV l i j = true := hb
    rw [mutB, this, Bool.true_and]
  · rw [if_neg hb]
    have : bitV l i j = false := Bool.eq_false_iff.2 hb
    rw [mutB, this, Bool.false_and]
theorem impl_l0 {n : Nat} (hn : n ≤ 10) {cs : List S75} (hc : GoodL n cs) : ∀ (d i : Nat), i + d = n →
    Ev (fun k => impl_SilentGroups.l0 k (n : Int) (heardP n cs) (groupsP n (heardP n cs) i) (i : Int)) (groupsP n (heardP n cs) n) := by
  intro d
  induction d with
  | zero =>
    intro i hi
    have e : i = n := by omega
    subst e
    refine Ev.step (fun k => by simp only [impl_SilentGroups.l0, if_neg (Int.lt_irrefl _)] <;> exact rfl) (ev_now _)
  | succ d ih =>
    intro i hi
    have hi' : i < n := by omega
    have ih' := ih (i + 1) (by omega)
    have q1 : (i : Int) < (n : Int) := by omega
    have e1 : Go.Proofs.Ytelhjfalkhmhkaa.H.idxO (fun q => impl_SilentGroupsLit1.f (q : Int) (heardP n cs) (i : Int)) ((n : Int)).toNat = some (groupP n (heardP n cs) i) := by
      rw [Int.toNat_natCast]
      exact Go.Proofs.Ytelhjfalkhmhkaa.H.idxO_some (by omega) (fun j hj => lit_ev hn (heardP_small hc) i hi' j hj)
    obtain ⟨g1, g2⟩ := group_first hc hi'
    have hlen := groups_len n (heardP n cs) i
    have q3 : (groupsP n (heardP n cs) i).length < 5864062014805 := by omega
    refine Ev.step (fun k => by simp only [impl_SilentGroups.l0, if_pos q1, e1, Option.bind_some, if_pos g1] <;> exact rfl) ?_
    cases hq : seenB (heardP n cs) i i with
    | true =>
      have : ¬ (groupP n (heardP n cs) i).getD 0 0 = (i : Int) := fun h => by rw [g2.1 h] at hq; cases hq
      simp only [if_neg this]
      rw [groups_f hq] at ih'
      exact ih'
    | false =>
      simp only [if_pos (g2.2 hq), if_pos q3]
      rw [groups_t hq] at ih'
      exact ih'
theorem impl_ev (n : Int) (cs : List S75) (h : cs.length ≤ 1048576) : Ev (fun k => impl_SilentGroups.f k n cs) (resP n cs) := by
  unfold impl_SilentGroups.f resP
  rw [areArrows_f]
  simp only [Option.bind_some]
  cases hg : arrowsB n cs with
  | false => simpa using ev_now _
  | true =>
    obtain ⟨h1, h2, h3, h4⟩ := arrowsB_true hg
    have q0 : 0 ≤ n := by omega
    simp only [if_true]
    refine Ev.bind (heard_ev h1 (by omega) h h4) ?_
    simp only [if_pos q0]
    have := impl_l0 (by omega) h4 n.toNat 0 (by omega)
    rw [show ((n.toNat : Nat) : Int) = n by omega] at this
    exact Ev.bind this (ev_now _)
theorem FnExactSilentGroups : ∀ (a0 : Int) (l1 : (List S77)), (Lit.int .i64 a0).wf = true → l1.length ≤ 9223372036854775807 → ∃ k, laws_FnExactSilentGroups.f k a0 l1 = some true := by
  intro a0 l1 w0 hl1
  apply Ev.rounds
  unfold laws_FnExactSilentGroups.f
  by_cases h1 : l1.length ≤ 1048576
  · simp only [szLetterS_small l1 h1, Option.bind_some]
    have h0 : ¬ (1048576 - (l1.length : Int)) < 0 := by omega
    simp only [if_neg h0]
    have g1 : (toLetters l1).length ≤ 1048576 := by rw [toLetters_length]; exact h1
    refine Ev.bind (toLetterS_ev l1 h1) ?_
    refine Ev.bind (spec_ev a0 (toLetters l1) g1) ?_
    refine Ev.bind (impl_ev a0 (toLetters l1) g1) ?_
    obtain ⟨hr, hb⟩ := resP_rows a0 (toLetters l1) g1
    refine Ev.bind (eqIntSS_ev _ hr) ?_
    simp only [true_and, if_true]
    refine Ev.bind (eqLetterS_ev _ g1) ?_
    simp only [if_true]
    refine Ev.bind (markLetterS_ev _ 1 g1 (by omega) (by omega)) ?_
    have hm : 0 ≤ 1 + 2 * (((toLetters l1).length : Nat) : Int) := by omega
    simp only [if_pos hm]
    refine Ev.bind (markIntSS_ev _ 1 hr (by omega) hb) ?_
    refine Ev.bind (heldIntSS_ev _ 1 hr (by omega) hb) ?_
    have hp : 0 ≤ 1 + totI (resP a0 (toLetters l1)).1 := by have := totI_nonneg (resP a0 (toLetters l1)).1; omega
    simp only [hp, and_self, if_true]
    exact ev_now _
  · simp only [szLetterS_great l1 h1 hl1, Option.bind_some]
    exact ev_now _

end Go.Proofs.Ytelhjfalkhmhkaa.Pure
