/- The pure side of FnExactRenameCalls: program and reference agree at every argument. No condition beside what an argument is. -/
import Derived.Test.YtelhjfalkhmhkaaPFnExactRenameCallsx16
import Derived.Test.YtelhjfalkhmhkaaPBase
import Derived.Test.YtelhjfalkhmhkaaHSorted
namespace Go.Proofs.Ytelhjfalkhmhkaa.Pure
open Go.RowKit Go.Proofs.Ytelhjfalkhmhkaa.PFnExactRenameCalls Go.Proofs.YtelhjfalkhmhkaaW.PrintWords Go.Proofs.YtelhjfalkhmhkaaW.PrintLast Go.Proofs.YtelhjfalkhmhkaaW.PrintMore Go.Proofs.Ytelhjfalkhmhkaa.PB
set_option linter.unusedSimpArgs false
set_option linter.unusedVariables false
/-! calls: read, compared, marked -/
def toCalls (l : List S71) : List S64 := l.map fun c => ⟨c.f0, c.f1⟩
theorem toCalls_length (l : List S71) : (toCalls l).length = l.length := by simp [toCalls]

theorem szCallS_small (l : List S71) (h : l.length ≤ 1048576) : laws_szCallS.f l 1048576 = some (1048576 - (l.length : Int)) := by
  unfold laws_szCallS.f
  rw [w64 (by omega) (by omega), if_neg (by omega)]
theorem szCallS_great (l : List S71) (h : ¬ l.length ≤ 1048576) (h2 : l.length ≤ 9223372036854775807) : laws_szCallS.f l 1048576 = some (-1) := by
  unfold laws_szCallS.f
  rw [w64 (by omega) (by omega), if_pos (by omega)]

theorem toCallS_l0 (l : List S71) (h : l.length ≤ 1048576) : ∀ (d : Nat) (i : Int) (acc : List S64), 0 ≤ i → i + d = l.length → acc.length = l.length →
    (∀ j : Nat, (j : Int) < i → acc.getD j z64 = (toCalls l).getD j z64) → Ev (fun k => laws_toCallS.l0 k l acc i) (toCalls l) := by
  intro d
  induction d with
  | zero =>
    intro i acc h0 hi hl hacc
    refine ev_step (f := fun _ => some acc) (fun k => ?_) ?_
    · simp only [laws_toCallS.l0]; rw [if_neg (by omega)]
    · have : acc = toCalls l := ext_getD z64 (by rw [hl, toCalls_length]) (fun j hj => hacc j (by omega))
      rw [this]; exact ev_now _
  | succ d ih =>
    intro i acc h0 hi hl hacc
    refine ev_step (f := fun k => laws_toCallS.l0 k l (acc.set i.toNat ⟨(l.getD i.toNat z71).f0, (l.getD i.toNat z71).f1⟩) (i + 1)) (fun k => ?_) ?_
    · simp only [laws_toCallS.l0, laws_toCall.f, rd_T71, Option.bind_some]
      rw [if_pos (by omega), if_pos h0, if_pos (by omega), w64 (by omega) (by omega)]
    · refine ih (i + 1) _ (by omega) (by omega) (by simpa using hl) (fun j hj => ?_)
      rw [getD_set _ _ _ _ _ (by omega)]
      split
      · rename_i e
        subst e
        rw [toCalls, getD_map (fun c : S71 => (⟨c.f0, c.f1⟩ : S64)) l i.toNat z71 z64 (by omega)]
      · exact hacc j (by omega)
theorem toCallS_ev (l : List S71) (h : l.length ≤ 1048576) : Ev (fun k => laws_toCallS.f k l) (toCalls l) := by
  unfold laws_toCallS.f
  have h1 : (0 : Int) ≤ (l.length : Int) := by omega
  have h2 : ((l.length : Int)).toNat ≤ 17592186044416 := by omega
  simp only [if_pos h1, if_pos h2]
  exact toCallS_l0 l h l.length 0 _ (by omega) (by omega) (by simp) (fun j hj => by omega)

theorem eqCallS_l0 (a : List S64) (h : a.length ≤ 1048576) : ∀ (d : Nat) (i : Int), 0 ≤ i → i + d = a.length → Ev (fun k => laws_eqCallS.l0 k a a i) true := by
  intro d
  induction d with
  | zero =>
    intro i h0 hi
    refine ev_step (f := fun _ => some true) (fun k => ?_) (ev_now _)
    simp only [laws_eqCallS.l0]; rw [if_neg (by omega)]
  | succ d ih =>
    intro i h0 hi
    refine ev_step (f := fun k => laws_eqCallS.l0 k a a (i + 1)) (fun k => ?_) (ih _ (by omega) (by omega))
    simp only [laws_eqCallS.l0, laws_eqCall.f, if_true, Option.bind_some]
    rw [if_pos (by omega), if_pos h0, if_pos (by omega), w64 (by omega) (by omega)]
theorem eqCallS_ev (a : List S64) (h : a.length ≤ 1048576) : Ev (fun k => laws_eqCallS.f k a a) true := by
  unfold laws_eqCallS.f
  simp only [if_true]
  exact eqCallS_l0 a h a.length 0 (by omega) (by omega)

/-! calls: marked -/
def markedC (n : Nat) (m : Int) : List S64 := (List.range n).map fun i : Nat => ⟨m + 2 * (i : Int), m + 2 * (i : Int) + 1⟩
theorem markCallS_l0 (n : Nat) (m : Int) (hn : n ≤ 1048576) (hm : 0 ≤ m) (hm2 : m ≤ 1099511627776) : ∀ (d : Nat) (i : Int) (acc : List S64), 0 ≤ i → i + d = n → acc.length = n →
    (∀ j : Nat, (j : Int) < i → acc.getD j z64 = (markedC n m).getD j z64) → Ev (fun k => laws_markCallS.l0 k acc (m + 2 * i) i) (m + 2 * n, markedC n m) := by
  intro d
  induction d with
  | zero =>
    intro i acc h0 hi hl hacc
    refine ev_step (f := fun _ => some (m + 2 * i, acc)) (fun k => ?_) ?_
    · simp only [laws_markCallS.l0]; rw [if_neg (by omega)]
    · have e : acc = markedC n m := ext_getD z64 (by rw [hl]; simp [markedC]) (fun j hj => hacc j (by omega))
      rw [e, show m + 2 * i = m + 2 * n by omega]; exact ev_now _
  | succ d ih =>
    intro i acc h0 hi hl hacc
    refine ev_step (f := fun k => laws_markCallS.l0 k (acc.set i.toNat ⟨m + 2 * i, m + 2 * i + 1⟩) (m + 2 * (i + 1)) (i + 1)) (fun k => ?_) ?_
    · have hi' : i.toNat < acc.length := by omega
      simp only [laws_markCallS.l0, Option.bind_some, rd_T64]
      rw [if_pos (by omega), if_pos h0, w64 (by omega) (by omega), w64 (by omega) (by omega), w64 (by omega) (by omega), show m + 2 * i + 1 + 1 = m + 2 * (i + 1) by omega, List.set_set, getD_set _ _ _ _ _ hi']
      simp
    · refine ih (i + 1) _ (by omega) (by omega) (by simpa using hl) (fun j hj => ?_)
      rw [getD_set _ _ _ _ _ (by omega)]
      split
      · rename_i e
        subst e
        rw [markedC, getD_range_map _ _ _ _ (by omega), show ((i.toNat : Nat) : Int) = i by omega]
      · exact hacc j (by omega)
theorem markCallS_ev (l : List S64) (m : Int) (hn : l.length ≤ 1048576) (hm : 0 ≤ m) (hm2 : m ≤ 1099511627776) : Ev (fun k => laws_markCallS.f k l m) (m + 2 * (l.length : Int), markedC l.length m) := by
  unfold laws_markCallS.f
  have := markCallS_l0 l.length m hn hm hm2 l.length 0 l (by omega) (by omega) rfl (fun j hj => by omega)
  simpa using this

/-! calls: held -/
theorem heldCallS_l0 (n : Nat) (m : Int) (hn : n ≤ 1048576) (hm : 0 ≤ m) (hm2 : m ≤ 1099511627776) : ∀ (d : Nat) (i : Int), 0 ≤ i → i + d = n → Ev (fun k => laws_heldCallS.l0 k (markedC n m) (m + 2 * i) i) (m + 2 * n) := by
  intro d
  have hl : (markedC n m).length = n := by simp [markedC]
  induction d with
  | zero =>
    intro i h0 hi
    refine ev_step (f := fun _ => some (m + 2 * i)) (fun k => ?_) ?_
    · simp only [laws_heldCallS.l0]; rw [if_neg (by omega)]
    · rw [show m + 2 * i = m + 2 * n by omega]; exact ev_now _
  | succ d ih =>
    intro i h0 hi
    refine ev_step (f := fun k => laws_heldCallS.l0 k (markedC n m) (m + 2 * (i + 1)) (i + 1)) (fun k => ?_) (ih _ (by omega) (by omega))
    have e : rd_T64 (markedC n m) i = ⟨m + 2 * i, m + 2 * i + 1⟩ := by
      show (markedC n m).getD i.toNat z64 = _
      rw [markedC, getD_range_map _ _ _ _ (by omega), show ((i.toNat : Nat) : Int) = i by omega]
    simp only [laws_heldCallS.l0, e, if_true]
    rw [if_pos (by omega), if_pos h0, w64 (by omega) (by omega), w64 (by omega) (by omega), w64 (by omega) (by omega), if_pos rfl, show m + 2 * i + 1 + 1 = m + 2 * (i + 1) by omega]
theorem heldCallS_ev (n : Nat) (m : Int) (hn : n ≤ 1048576) (hm : 0 ≤ m) (hm2 : m ≤ 1099511627776) : Ev (fun k => laws_heldCallS.f k (markedC n m) m) (m + 2 * (n : Int)) := by
  unfold laws_heldCallS.f
  have := heldCallS_l0 n m hn hm hm2 n 0 (by omega) (by omega)
  simpa using this

/-! lists of numbers: compared, marked -/
theorem eqIntS_l0 (a : List Int) (h : a.length ≤ 1048576) : ∀ (d : Nat) (i : Int), 0 ≤ i → i + d = a.length → Ev (fun k => laws_eqIntS.l0 k a a i) true := by
  intro d
  induction d with
  | zero =>
    intro i h0 hi
    refine ev_step (f := fun _ => some true) (fun k => ?_) (ev_now _)
    simp only [laws_eqIntS.l0]; rw [if_neg (by omega)]
  | succ d ih =>
    intro i h0 hi
    refine ev_step (f := fun k => laws_eqIntS.l0 k a a (i + 1)) (fun k => ?_) (ih _ (by omega) (by omega))
    simp only [laws_eqIntS.l0, if_true]
    rw [if_pos (by omega), if_pos h0, if_pos (by omega), w64 (by omega) (by omega)]
theorem eqIntS_ev (a : List Int) (h : a.length ≤ 1048576) : Ev (fun k => laws_eqIntS.f k a a) true := by
  unfold laws_eqIntS.f
  simp only [if_true]
  exact eqIntS_l0 a h a.length 0 (by omega) (by omega)
def markedI (n : Nat) (m : Int) : List Int := (List.range n).map fun i : Nat => m + (i : Int)
theorem markIntS_l0 (n : Nat) (m : Int) (hn : n ≤ 1048576) (hm : 0 ≤ m) (hm2 : m ≤ 1099511627776) : ∀ (d : Nat) (i : Int) (acc : List Int), 0 ≤ i → i + d = n → acc.length = n →
    (∀ j : Nat, (j : Int) < i → acc.getD j 0 = (markedI n m).getD j 0) → Ev (fun k => laws_markIntS.l0 k acc (m + i) i) (m + n, markedI n m) := by
  intro d
  induction d with
  | zero =>
    intro i acc h0 hi hl hacc
    refine ev_step (f := fun _ => some (m + i, acc)) (fun k => ?_) ?_
    · simp only [laws_markIntS.l0]; rw [if_neg (by omega)]
    · have e : acc = markedI n m := ext_getD 0 (by rw [hl]; simp [markedI]) (fun j hj => hacc j (by omega))
      rw [e, show m + i = m + n by omega]; exact ev_now _
  | succ d ih =>
    intro i acc h0 hi hl hacc
    refine ev_step (f := fun k => laws_markIntS.l0 k (acc.set i.toNat (m + i)) (m + (i + 1)) (i + 1)) (fun k => ?_) ?_
    · simp only [laws_markIntS.l0]
      rw [if_pos (by omega), if_pos h0, w64 (by omega) (by omega), w64 (by omega) (by omega), show m + i + 1 = m + (i + 1) by omega]
    · refine ih (i + 1) _ (by omega) (by omega) (by simpa using hl) (fun j hj => ?_)
      rw [getD_set _ _ _ _ _ (by omega)]
      split
      · rename_i e
        subst e
        rw [markedI, getD_range_map _ _ _ _ (by omega)]
        omega
      · exact hacc j (by omega)
theorem markIntS_ev (l : List Int) (m : Int) (hn : l.length ≤ 1048576) (hm : 0 ≤ m) (hm2 : m ≤ 1099511627776) : Ev (fun k => laws_markIntS.f k l m) (m + (l.length : Int), markedI l.length m) := by
  unfold laws_markIntS.f
  have := markIntS_l0 l.length m hn hm hm2 l.length 0 l (by omega) (by omega) rfl (fun j hj => by omega)
  simpa using this
/-! spec.caGood -/
theorem caFriends_f (n : Int) : spec_caFriends.f n = some (decide (1 ≤ n) && decide (n ≤ 10)) := by
  unfold spec_caFriends.f spec_l1In.f
  by_cases h1 : 1 ≤ n <;> by_cases h2 : n ≤ 10 <;> simp [h1, h2]
theorem caCall_f (n a b : Int) (h1 : 1 ≤ n) (h2 : n ≤ 10) : spec_caCall.f n a b = some (isCallB n a b) := by
  unfold spec_caCall.f spec_l1In.f isCallB
  rw [w64 (by omega) (by omega)]
  by_cases g1 : 0 ≤ a
  · by_cases g2 : a ≤ n - 1
    · rw [w64 (by omega) (by omega)]
      by_cases g3 : a + 1 ≤ b <;> by_cases g4 : b ≤ n - 1
      · have e1 : a < b := by omega
        have e2 : b < n := by omega
        simp [g1, g2, g3, g4, e1, e2]
      · have e1 : a < b := by omega
        have e2 : ¬ b < n := by omega
        simp [g1, g2, g3, g4, e1, e2]
      · have e1 : ¬ a < b := by omega
        simp [g1, g2, g3, e1]
      · have e1 : ¬ a < b := by omega
        simp [g1, g2, g3, e1]
    · by_cases g3 : a < b
      · have e2 : ¬ b < n := by omega
        simp [g1, g2, e2]
      · simp [g1, g2, g3]
  · simp [g1]
theorem caGood_l0 (n : Int) (l : List S64) (h : l.length ≤ 1048576) (h1 : 1 ≤ n) (h2 : n ≤ 10) : ∀ (d : Nat) (i : Int), 0 ≤ i → i + d = l.length →
    Ev (fun k => spec_caGood.l0 k n l (l.length : Int) i) ((l.drop i.toNat).all fun c => isCallB n c.f0 c.f1) := by
  intro d
  induction d with
  | zero =>
    intro i h0 hi
    refine ev_step (f := fun _ => some true) (fun k => ?_) ?_
    · simp only [spec_caGood.l0]; rw [if_neg (by omega)]
    · rw [List.drop_eq_nil_of_le (by omega)]; exact ev_now _
  | succ d ih =>
    intro i h0 hi
    have hd := drop_at l i.toNat z64 (by omega)
    cases hq : isCallB n (l.getD i.toNat z64).f0 (l.getD i.toNat z64).f1 with
    | true =>
      refine ev_step (f := fun k => spec_caGood.l0 k n l (l.length : Int) (i + 1)) (fun k => ?_) ?_
      · simp only [spec_caGood.l0, rd_T64, caCall_f n _ _ h1 h2, Option.bind_some, hq, if_true]
        rw [if_pos (by omega), if_pos h0, if_pos (by omega), w64 (by omega) (by omega)]
      · have := ih (i + 1) (by omega) (by omega)
        rw [hd, List.all_cons, hq, Bool.true_and]
        rwa [show (i + 1).toNat = i.toNat + 1 by omega] at this
    | false =>
      refine ev_step (f := fun _ => some false) (fun k => ?_) ?_
      · simp only [spec_caGood.l0, rd_T64, caCall_f n _ _ h1 h2, Option.bind_some, hq]
        rw [if_pos (by omega), if_pos h0, if_pos (by omega), if_neg (by simp)]
      · rw [hd, List.all_cons, hq, Bool.false_and]; exact ev_now _
theorem caGood_ev (n : Int) (l : List S64) (h : l.length ≤ 1048576) : Ev (fun k => spec_caGood.f k n l) (areCallsB n l) := by
  unfold spec_caGood.f
  simp only [caFriends_f, Option.bind_some]
  by_cases h1 : 1 ≤ n ∧ n ≤ 10
  · obtain ⟨h1, h2⟩ := h1
    by_cases h3 : l.length ≤ 60
    · have e : areCallsB n l = l.all fun c => isCallB n c.f0 c.f1 := by simp [areCallsB, h1, h2, h3]
      rw [e]
      have e2 : decide ((l.length : Int) > 60) = false := by rw [decide_eq_false_iff_not]; omega
      simp only [h1, h2, decide_true, Bool.and_self, if_true, e2]
      refine ev_step (f := fun k => spec_caGood.l0 k n l (l.length : Int) 0) (fun k => by simp [spec_caGood.j0]) ?_
      simpa using caGood_l0 n l h h1 h2 l.length 0 (by omega) (by omega)
    · have e : areCallsB n l = false := by simp [areCallsB, h3]
      rw [e]
      have e2 : decide ((l.length : Int) > 60) = true := by rw [decide_eq_true_eq]; omega
      simp only [h1, h2, decide_true, Bool.and_self, if_true, e2]
      exact ev_step (f := fun _ => some false) (fun k => by simp [spec_caGood.j0]) (ev_now _)
  · have e : areCallsB n l = false := by rw [Bool.eq_false_iff]; intro hh; simp [areCallsB] at hh; exact h1 ⟨hh.1, hh.2.1⟩
    have e1 : (decide (1 ≤ n) && decide (n ≤ 10)) = false := by rw [Bool.eq_false_iff]; simpa using h1
    rw [e]
    simp only [e1]
    exact ev_step (f := fun _ => some false) (fun k => by simp [spec_caGood.j0]) (ev_now _)
theorem areCallsB_true {n : Int} {cs : List S64} (h : areCallsB n cs = true) : 1 ≤ n ∧ n ≤ 10 ∧ cs.length ≤ 60 ∧ ∀ c ∈ cs, isCallB n c.f0 c.f1 = true := by
  simp [areCallsB] at h
  exact h


theorem caPair_f (a b : Int) : spec_caPair.f a b = some (mn a b, mx a b) := by
  unfold spec_caPair.f spec_l1Least.f spec_l1Most.f
  unfold mn mx
  by_cases h1 : a < b
  · have h2 : ¬ b < a := by omega
    have h3 : ¬ a > b := by omega
    simp [h1, h2, h3]
  · by_cases h2 : b < a
    · simp [h1, h2]
    · have h3 : ¬ a > b := by omega
      have : a = b := by omega
      simp [h1, h2, h3, this]
theorem toIntS_l0 (l : List Int) (h : l.length ≤ 1048576) : ∀ (d : Nat) (i : Int) (acc : List Int), 0 ≤ i → i + d = l.length → acc.length = l.length →
    (∀ j : Nat, (j : Int) < i → acc.getD j 0 = l.getD j 0) → Ev (fun k => laws_toIntS.l0 k l acc i) l := by
  intro d
  induction d with
  | zero =>
    intro i acc h0 hi hl hacc
    refine ev_step (f := fun _ => some acc) (fun k => ?_) ?_
    · simp only [laws_toIntS.l0]; rw [if_neg (by omega)]
    · have : acc = l := ext_getD 0 hl (fun j hj => hacc j (by omega))
      rw [this]; exact ev_now _
  | succ d ih =>
    intro i acc h0 hi hl hacc
    refine ev_step (f := fun k => laws_toIntS.l0 k l (acc.set i.toNat (l.getD i.toNat 0)) (i + 1)) (fun k => ?_) ?_
    · simp only [laws_toIntS.l0, rd]
      rw [if_pos (by omega), if_pos h0, if_pos (by omega), w64 (by omega) (by omega)]
    · refine ih (i + 1) _ (by omega) (by omega) (by simpa using hl) (fun j hj => ?_)
      rw [getD_set _ _ _ _ _ (by omega)]
      split
      · rename_i e
        subst e
        rfl
      · exact hacc j (by omega)
theorem toIntS_ev (l : List Int) (h : l.length ≤ 1048576) : Ev (fun k => laws_toIntS.f k l) l := by
  unfold laws_toIntS.f
  have h1 : (0 : Int) ≤ (l.length : Int) := by omega
  have h2 : ((l.length : Int)).toNat ≤ 35184372088832 := by omega
  simp only [if_pos h1, if_pos h2]
  exact toIntS_l0 l h l.length 0 _ (by omega) (by omega) (by simp) (fun j hj => by omega)
/-! names -/
def inR (lo hi : Int) (x : Int) : Bool := decide (lo ≤ x) && decide (x ≤ hi)
theorem l1In_f (a b c : Int) : spec_l1In.f a b c = some (inR b c a) := by
  unfold spec_l1In.f inR
  by_cases h : a ≥ b
  · have : b ≤ a := h
    simp [this]
  · have : ¬ b ≤ a := h
    simp [this]
theorem l1All_l0 (l : List Int) (lo hi : Int) (h : l.length ≤ 1048576) : ∀ (d i : Nat), i + d = l.length → Ev (fun k => spec_l1All.l0 k lo hi l (l.length : Int) (i : Int)) ((l.drop i).all (inR lo hi)) := by
  intro d
  induction d with
  | zero =>
    intro i hi'
    refine ev_step (f := fun _ => some true) (fun k => ?_) ?_
    · simp only [spec_l1All.l0]; rw [if_neg (by omega)]
    · rw [List.drop_of_length_le (by omega)]; exact ev_now _
  | succ d ih =>
    intro i hi'
    have hlt : i < l.length := by omega
    have e : l.drop i = l.getD i 0 :: l.drop (i + 1) := by
      rw [List.drop_eq_getElem_cons hlt, List.getD_eq_getElem?_getD, List.getElem?_eq_getElem hlt]; rfl
    rw [e, List.all_cons]
    cases hx : inR lo hi (l.getD i 0) with
    | false =>
      refine ev_step (f := fun _ => some false) (fun k => ?_) (ev_now _)
      simp only [spec_l1All.l0, l1In_f, Option.bind_some, show rd l (i : Int) = l.getD i 0 from rfl, hx]
      rw [if_pos (by omega), if_pos (by omega), if_pos (by omega)]; rfl
    | true =>
      refine ev_step (f := fun k => spec_l1All.l0 k lo hi l (l.length : Int) ((i + 1 : Nat) : Int)) (fun k => ?_) (by rw [Bool.true_and]; exact ih (i + 1) (by omega))
      simp only [spec_l1All.l0, l1In_f, Option.bind_some, show rd l (i : Int) = l.getD i 0 from rfl, hx, if_true]
      rw [if_pos (by omega), if_pos (by omega), if_pos (by omega), w64 (by omega) (by omega)]; rfl
theorem l1Has_l0 (l : List Int) (x : Int) (h : l.length ≤ 1048576) : ∀ (d i : Nat), i + d = l.length → Ev (fun k => spec_l1Has.l0 k x l (l.length : Int) (i : Int)) ((l.drop i).any (fun y => decide (y = x))) := by
  intro d
  induction d with
  | zero =>
    intro i hi'
    refine ev_step (f := fun _ => some false) (fun k => ?_) ?_
    · simp only [spec_l1Has.l0]; rw [if_neg (by omega)]
    · rw [List.drop_of_length_le (by omega)]; exact ev_now _
  | succ d ih =>
    intro i hi'
    have hlt : i < l.length := by omega
    have e : l.drop i = l.getD i 0 :: l.drop (i + 1) := by
      rw [List.drop_eq_getElem_cons hlt, List.getD_eq_getElem?_getD, List.getElem?_eq_getElem hlt]; rfl
    rw [e, List.any_cons]
    by_cases hx : l.getD i 0 = x
    · refine ev_step (f := fun _ => some true) (fun k => ?_) (by rw [decide_eq_true hx, Bool.true_or]; exact ev_now _)
      simp only [spec_l1Has.l0, show rd l (i : Int) = l.getD i 0 from rfl, if_pos hx]
      rw [if_pos (by omega), if_pos (by omega), if_pos (by omega)]
    · refine ev_step (f := fun k => spec_l1Has.l0 k x l (l.length : Int) ((i + 1 : Nat) : Int)) (fun k => ?_) (by rw [decide_eq_false hx, Bool.false_or]; exact ih (i + 1) (by omega))
      simp only [spec_l1Has.l0, show rd l (i : Int) = l.getD i 0 from rfl, if_neg hx]
      rw [if_pos (by omega), if_pos (by omega), if_pos (by omega), w64 (by omega) (by omega)]; rfl
def hasB (l : List Int) (x : Int) : Bool := l.any (fun y => decide (y = x))
theorem l1Has_ev (l : List Int) (x : Int) (h : l.length ≤ 1048576) : Ev (fun k => spec_l1Has.f k l x) (hasB l x) := by
  unfold spec_l1Has.f hasB
  have := l1Has_l0 l x h l.length 0 (by omega)
  simpa using this
theorem l1All_ev (l : List Int) (lo hi : Int) (h : l.length ≤ 1048576) : Ev (fun k => spec_l1All.f k l lo hi) (l.all (inR lo hi)) := by
  unfold spec_l1All.f
  have := l1All_l0 l lo hi h l.length 0 (by omega)
  simpa using this
/-- No element stands ahead of its like. -/
def nodD (l : List Int) : Nat → Nat → Bool
  | 0, _ => true
  | d + 1, i => if hasB (l.take i) (l.getD i 0) = true then false else nodD l d (i + 1)
theorem nod_l0 (l : List Int) (h : l.length ≤ 1048576) : ∀ (d i : Nat), i + d = l.length → Ev (fun k => spec_caNames.l0 k l l (l.length : Int) (i : Int)) (nodD l d i) := by
  intro d
  induction d with
  | zero =>
    intro i hi'
    refine ev_step (f := fun _ => some true) (fun k => ?_) (ev_now _)
    simp only [spec_caNames.l0]; rw [if_neg (by omega)]
  | succ d ih =>
    intro i hi'
    refine ev_step (f := fun k => (spec_l1Has.f k (l.take i) (l.getD i 0)).bind fun t => if t = true then some false else spec_caNames.l0 k l l (l.length : Int) ((i + 1 : Nat) : Int)) (fun k => ?_) ?_
    · simp only [spec_caNames.l0, show rd l (i : Int) = l.getD i 0 from rfl, Int.toNat_natCast]
      rw [if_pos (by omega), if_pos (by omega), if_pos (by omega), if_pos (by omega), w64 (by omega) (by omega)]; rfl
    · refine Ev.bind (l1Has_ev (l.take i) (l.getD i 0) (by rw [List.length_take]; omega)) ?_
      unfold nodD
      cases hasB (l.take i) (l.getD i 0) with
      | true => simp only [if_true]; exact ev_now _
      | false => simp only [Bool.false_eq_true, if_false]; exact ih (i + 1) (by omega)
def namesB (n : Int) (l : List Int) : Bool := decide ((l.length : Int) = n) && (l.all (inR 0 (n - 1)) && nodD l l.length 0)
theorem caNames_ev {n : Int} (l : List Int) (h1 : 1 ≤ n) (h2 : n ≤ 10) (h : l.length ≤ 1048576) : Ev (fun k => spec_caNames.f k n l) (namesB n l) := by
  unfold spec_caNames.f namesB
  by_cases hn : (l.length : Int) = n
  · simp only [if_pos hn, decide_eq_true hn, Bool.true_and]
    rw [w64 (by omega) (by omega)]
    refine Ev.bind (l1All_ev l 0 (n - 1) h) ?_
    cases l.all (inR 0 (n - 1)) with
    | false =>
      refine ev_step (f := fun _ => some false) (fun k => ?_) (ev_now _)
      simp [spec_caNames.j0]
    | true =>
      refine ev_step (f := fun k => spec_caNames.l0 k l l (l.length : Int) ((0 : Nat) : Int)) (fun k => ?_) (by rw [Bool.true_and]; exact nod_l0 l h l.length 0 (by omega))
      simp [spec_caNames.j0]
  · simp only [if_neg hn, decide_eq_false hn, Bool.false_and]
    refine ev_step (f := fun _ => some false) (fun k => ?_) (ev_now _)
    simp [spec_caNames.j0]
/-! a permutation, told in both ways -/
theorem lower : ∀ (s : List Int) (a : Int), s.Pairwise (· < ·) → (∀ x ∈ s, a ≤ x) → ∀ k, k < s.length → a + (k : Int) ≤ s.getD k 0
  | [], _, _, _, k, hk => by simp at hk
  | x :: t, a, hp, ha, 0, _ => by simpa using ha x List.mem_cons_self
  | x :: t, a, hp, ha, k + 1, hk => by
    have hc := List.pairwise_cons.1 hp
    have := lower t (a + 1) hc.2 (fun y hy => by have := hc.1 y hy; have := ha x List.mem_cons_self; omega) k (by simpa using hk)
    rw [List.getD_cons_succ]; omega
theorem upper : ∀ (s : List Int) (b : Int), s.Pairwise (· < ·) → (∀ x ∈ s, x ≤ b) → ∀ k, k < s.length → s.getD k 0 + ((s.length : Int) - 1 - (k : Int)) ≤ b
  | [], _, _, _, k, hk => by simp at hk
  | [x], b, _, hb, 0, _ => by have := hb x List.mem_cons_self; simpa using this
  | x :: y :: t, b, hp, hb, 0, _ => by
    have hc := List.pairwise_cons.1 hp
    have h1 := upper (y :: t) b hc.2 (fun z hz => hb z (List.mem_cons_of_mem _ hz)) 0 (by simp)
    have h2 := hc.1 y List.mem_cons_self
    rw [List.getD_cons_zero] at h1 ⊢
    simp only [List.length_cons] at h1 ⊢
    omega
  | x :: t, b, hp, hb, k + 1, hk => by
    have hc := List.pairwise_cons.1 hp
    have h1 := upper t b hc.2 (fun z hz => hb z (List.mem_cons_of_mem _ hz)) k (by simpa using hk)
    rw [List.getD_cons_succ]
    simp only [List.length_cons]
    omega
def up (n : Nat) : List Int := (List.range n).map fun i : Nat => (i : Int)
theorem idxB_up {s : List Int} (h : idxB s = true) : s = up s.length := by
  apply ext_getD 0 (by simp [up])
  intro i hi
  have := (List.all_eq_true.1 h) i (List.mem_range.2 hi)
  rw [up, getD_range_map _ _ _ _ hi]
  simpa using this
theorem hasB_iff (l : List Int) (x : Int) : hasB l x = true ↔ x ∈ l := by
  unfold hasB
  rw [List.any_eq_true]
  constructor
  · rintro ⟨y, hy, he⟩
    have : y = x := by simpa using he
    rw [← this]; exact hy
  · intro h; exact ⟨x, h, by simp⟩
theorem nodD_true (l : List Int) : ∀ (d i : Nat), nodD l d i = true ↔ ∀ j, i ≤ j → j < i + d → l.getD j 0 ∉ l.take j
  | 0, i => by unfold nodD; exact ⟨fun _ j h1 h2 => by omega, fun _ => rfl⟩
  | d + 1, i => by
    unfold nodD
    cases hb : hasB (l.take i) (l.getD i 0) with
    | true =>
      simp only [if_true, Bool.false_eq_true, false_iff]
      intro hh
      exact hh i (by omega) (by omega) ((hasB_iff _ _).1 hb)
    | false =>
      simp only [Bool.false_eq_true, if_false]
      rw [nodD_true l d (i + 1)]
      constructor
      · intro hh j h1 h2
        by_cases hj : j = i
        · subst hj
          intro hm
          rw [(hasB_iff _ _).2 hm] at hb
          cases hb
        · exact hh j (by omega) (by omega)
      · intro hh j h1 h2
        exact hh j (by omega) (by omega)
theorem nodD_nodup (l : List Int) : nodD l l.length 0 = true ↔ l.Pairwise (· ≠ ·) := by
  rw [nodD_true, List.pairwise_iff_getElem]
  constructor
  · intro hh i j hi hj hij he
    refine hh j (by omega) (by omega) ?_
    rw [List.getD_eq_getElem?_getD, List.getElem?_eq_getElem hj]
    show l[j] ∈ l.take j
    rw [← he]
    rw [List.mem_take_iff_getElem]
    exact ⟨i, by omega, rfl⟩
  · intro hh j _ hj hm
    have hj' : j < l.length := by omega
    rw [List.getD_eq_getElem?_getD, List.getElem?_eq_getElem hj'] at hm
    have hm' : l[j] ∈ l.take j := hm
    rw [List.mem_take_iff_getElem] at hm'
    obtain ⟨i, hi, he⟩ := hm'
    exact hh i j (by omega) hj' (by omega) he
theorem up_nodup (n : Nat) : (up n).Pairwise (· ≠ ·) := by
  unfold up
  rw [List.pairwise_map]
  exact List.Pairwise.imp (fun h he => h (by omega)) (List.nodup_range (n := n))
theorem perm_names {n : Int} (l : List Int) : (idxB (Go.Proofs.Ytelhjfalkhmhkaa.H.sortedI l) && decide ((l.length : Int) = n)) = namesB n l := by
  unfold namesB
  by_cases hn : (l.length : Int) = n
  · rw [decide_eq_true hn, Bool.and_true, Bool.true_and]
    have hp : (Go.Proofs.Ytelhjfalkhmhkaa.H.sortedI l).Perm l := List.mergeSort_perm _ _
    have hlen := Go.Proofs.Ytelhjfalkhmhkaa.H.sortedI_length l
    have key : idxB (Go.Proofs.Ytelhjfalkhmhkaa.H.sortedI l) = true ↔ (l.all (inR 0 (n - 1)) && nodD l l.length 0) = true := by
      rw [Bool.and_eq_true, nodD_nodup]
      constructor
      · intro hi
        have hu := idxB_up hi
        rw [hlen] at hu
        constructor
        · rw [List.all_eq_true]
          intro x hx
          have : x ∈ up l.length := by rw [← hu]; exact hp.mem_iff.2 hx
          unfold up at this
          obtain ⟨i, hi, rfl⟩ := List.mem_map.1 this
          have := List.mem_range.1 hi
          unfold inR
          simp
          omega
        · have := up_nodup l.length
          rw [← hu] at this
          exact (hp.pairwise_iff (fun h => Ne.symm h)).1 this
      · rintro ⟨ha, hd⟩
        have hs1 : (Go.Proofs.Ytelhjfalkhmhkaa.H.sortedI l).Pairwise (fun a b => decide (a ≤ b) = true) := List.pairwise_mergeSort (fun a b c h1 h2 => by simp at *; omega) (fun a b => by simp; omega) l
        have hs2 := (hp.pairwise_iff (R := (· ≠ ·)) (fun h => Ne.symm h)).2 hd
        have hs : (Go.Proofs.Ytelhjfalkhmhkaa.H.sortedI l).Pairwise (· < ·) := (hs1.and hs2).imp (fun ⟨h1, h2⟩ => by have : _ ≤ _ := of_decide_eq_true h1; omega)
        have hr : ∀ x ∈ Go.Proofs.Ytelhjfalkhmhkaa.H.sortedI l, 0 ≤ x ∧ x ≤ n - 1 := fun x hx => by
          have := (List.all_eq_true.1 ha) x (hp.mem_iff.1 hx)
          unfold inR at this
          simpa using this
        refine idxB_yes (fun k hk => ?_)
        have q1 := lower _ 0 hs (fun x hx => (hr x hx).1) k hk
        have q2 := upper _ (n - 1) hs (fun x hx => (hr x hx).2) k hk
        rw [hlen] at q2
        omega
    cases h1 : idxB (Go.Proofs.Ytelhjfalkhmhkaa.H.sortedI l) with
    | true => exact (key.1 h1).symm
    | false =>
      cases h2 : (l.all (inR 0 (n - 1)) && nodD l l.length 0) with
      | false => rfl
      | true => rw [key.2 h2] at h1; cases h1
  · rw [decide_eq_false hn, Bool.and_false, Bool.false_and]
/-! the calls with other names -/
def ren (l : List Int) (c : S64) : S64 := ⟨mn (l.getD c.f0.toNat 0) (l.getD c.f1.toNat 0), mx (l.getD c.f0.toNat 0) (l.getD c.f1.toNat 0)⟩
def resP (n : Int) (cs : List S64) (l : List Int) : List S64 × Bool := if areCallsB n cs = true then (if namesB n l = true then (cs.map (ren l), true) else ([], false)) else ([], false)
theorem resP_length (n : Int) (cs : List S64) (l : List Int) (h : cs.length ≤ 1048576) : (resP n cs l).1.length ≤ 1048576 := by
  unfold resP
  split
  · split
    · simpa using h
    · simp
  · simp
theorem take_map_succ (l : List Int) (cs : List S64) (i : Nat) (h : i < cs.length) : (cs.take i).map (ren l) ++ [ren l (cs.getD i z64)] = (cs.take (i + 1)).map (ren l) := by
  have e : cs.take (i + 1) = cs.take i ++ [cs.getD i z64] := by rw [List.take_add_one, List.getElem?_eq_getElem h, List.getD_eq_getElem?_getD, List.getElem?_eq_getElem h]; rfl
  rw [e, List.map_append]; rfl
theorem getD_mem' (cs : List S64) (i : Nat) (h : i < cs.length) : cs.getD i z64 ∈ cs := by
  rw [List.getD_eq_getElem?_getD, List.getElem?_eq_getElem h]; exact List.getElem_mem h
theorem call_in {n : Int} {c : S64} (h : isCallB n c.f0 c.f1 = true) : 0 ≤ c.f0 ∧ c.f0 < c.f1 ∧ c.f1 < n := by
  unfold isCallB at h
  simpa using h
theorem spec_l0 {n : Int} {cs : List S64} {l : List Int} (hn : (l.length : Int) = n) (h3 : cs.length ≤ 60) (h4 : ∀ c ∈ cs, isCallB n c.f0 c.f1 = true) : ∀ (d i : Nat), i + d = cs.length →
    Ev (fun k => spec_RenameCalls.l0 k l ((cs.take i).map (ren l)) cs (cs.length : Int) (i : Int)) (cs.map (ren l), true) := by
  intro d
  induction d with
  | zero =>
    intro i hi
    refine ev_step (f := fun _ => some ((cs.take i).map (ren l), true)) (fun k => ?_) ?_
    · simp only [spec_RenameCalls.l0]; rw [if_neg (by omega)]
    · rw [List.take_of_length_le (by omega)]; exact ev_now _
  | succ d ih =>
    intro i hi
    have hlt : i < cs.length := by omega
    obtain ⟨c1, c2, c3⟩ := call_in (h4 _ (getD_mem' cs i hlt))
    refine ev_step (f := fun k => spec_RenameCalls.l0 k l ((cs.take (i + 1)).map (ren l)) cs (cs.length : Int) ((i + 1 : Nat) : Int)) (fun k => ?_) (ih (i + 1) (by omega))
    have hb : ((cs.take i).map (ren l)).length < 8796093022208 := by rw [List.length_map, List.length_take]; omega
    rw [← take_map_succ l cs i hlt]
    simp only [spec_RenameCalls.l0, caPair_f, Option.bind_some, show rd_T64 cs (i : Int) = cs.getD i z64 from rfl, if_pos hb]
    rw [if_pos (by omega), if_pos (by omega), if_pos (by omega), if_pos (by omega), if_pos (by omega), if_pos (by omega), if_pos (by omega), w64 (by omega) (by omega)]
    rfl
theorem impl_l0 {n : Int} {cs : List S64} {l : List Int} (hn : (l.length : Int) = n) (h3 : cs.length ≤ 60) (h4 : ∀ c ∈ cs, isCallB n c.f0 c.f1 = true) : ∀ (d i : Nat), i + d = cs.length →
    Ev (fun k => impl_RenameCalls.l0 k l ((cs.take i).map (ren l)) cs (cs.length : Int) (i : Int)) (cs.map (ren l), true) := by
  intro d
  induction d with
  | zero =>
    intro i hi
    refine ev_step (f := fun _ => some ((cs.take i).map (ren l), true)) (fun k => ?_) ?_
    · simp only [impl_RenameCalls.l0]; rw [if_neg (by omega)]
    · rw [List.take_of_length_le (by omega)]; exact ev_now _
  | succ d ih =>
    intro i hi
    have hlt : i < cs.length := by omega
    obtain ⟨c1, c2, c3⟩ := call_in (h4 _ (getD_mem' cs i hlt))
    refine ev_step (f := fun k => impl_RenameCalls.l0 k l ((cs.take (i + 1)).map (ren l)) cs (cs.length : Int) ((i + 1 : Nat) : Int)) (fun k => ?_) (ih (i + 1) (by omega))
    have hb : ((cs.take i).map (ren l)).length < 8796093022208 := by rw [List.length_map, List.length_take]; omega
    rw [← take_map_succ l cs i hlt]
    simp only [impl_RenameCalls.l0, impl_call.f, Option.bind_some, show rd_T64 cs (i : Int) = cs.getD i z64 from rfl, if_pos hb]
    rw [if_pos (by omega), if_pos (by omega), if_pos (by omega), if_pos (by omega), if_pos (by omega), if_pos (by omega), if_pos (by omega), w64 (by omega) (by omega)]
    rfl
theorem spec_ev (n : Int) (cs : List S64) (l : List Int) (h : cs.length ≤ 1048576) (hl : l.length ≤ 1048576) : Ev (fun k => spec_RenameCalls.f k n cs l) (resP n cs l) := by
  unfold spec_RenameCalls.f resP
  refine Ev.bind (caGood_ev n cs h) ?_
  cases hg : areCallsB n cs with
  | false =>
    simp only [Bool.false_eq_true, if_false]
    refine ev_step (f := fun _ => some ([], false)) (fun k => ?_) (ev_now _)
    simp [spec_RenameCalls.j0]
  | true =>
    obtain ⟨h1, h2, h3, h4⟩ := areCallsB_true hg
    simp only [if_true]
    refine Ev.bind (caNames_ev l h1 h2 hl) ?_
    cases hm : namesB n l with
    | false =>
      refine ev_step (f := fun _ => some ([], false)) (fun k => ?_) (ev_now _)
      simp [spec_RenameCalls.j0]
    | true =>
      have hn : (l.length : Int) = n := by unfold namesB at hm; simp at hm; exact hm.1
      refine ev_step (f := fun k => spec_RenameCalls.l0 k l ((cs.take 0).map (ren l)) cs (cs.length : Int) ((0 : Nat) : Int)) (fun k => ?_) (spec_l0 hn h3 h4 cs.length 0 (by omega))
      simp [spec_RenameCalls.j0]
theorem impl_ev (n : Int) (cs : List S64) (l : List Int) (h : cs.length ≤ 1048576) (hl : l.length ≤ 1048576) : Ev (fun k => impl_RenameCalls.f k n cs l) (resP n cs l) := by
  unfold impl_RenameCalls.f resP impl_AreCalls.f impl_isPermutation.f
  simp only [Option.bind_some, if_pos hl, perm_names]
  cases hg : areCallsB n cs with
  | false =>
    simp only [Bool.false_eq_true, if_false]
    refine ev_step (f := fun _ => some ([], false)) (fun k => ?_) (ev_now _)
    simp [impl_RenameCalls.j0]
  | true =>
    obtain ⟨h1, h2, h3, h4⟩ := areCallsB_true hg
    simp only [if_true]
    cases hm : namesB n l with
    | false =>
      refine ev_step (f := fun _ => some ([], false)) (fun k => ?_) (ev_now _)
      simp [impl_RenameCalls.j0]
    | true =>
      have hn : (l.length : Int) = n := by unfold namesB at hm; simp at hm; exact hm.1
      refine ev_step (f := fun k => impl_RenameCalls.l0 k l ((cs.take 0).map (ren l)) cs (cs.length : Int) ((0 : Nat) : Int)) (fun k => ?_) (impl_l0 hn h3 h4 cs.length 0 (by omega))
      simp [impl_RenameCalls.j0]
theorem FnExactRenameCalls : ∀ (a0 : Int) (l1 : (List S71)) (l2 : (List Int)), (Lit.int .i64 a0).wf = true → l1.length ≤ 9223372036854775807 → l2.length ≤ 9223372036854775807 → ∃ k, laws_FnExactRenameCalls.f k a0 l1 l2 = some true := by
  intro a0 l1 l2 w0 hl1 hl2
  apply Ev.rounds
  unfold laws_FnExactRenameCalls.f
  by_cases hx : (l2.length : Int) > 1048576
  · simp only [if_pos hx]
    exact ev_now _
  simp only [if_neg hx]
  have hx2 : l2.length ≤ 1048576 := by omega
  by_cases h1 : l1.length ≤ 1048576
  · simp only [szCallS_small l1 h1, Option.bind_some]
    have h0 : ¬ (1048576 - (l1.length : Int)) < 0 := by omega
    simp only [if_neg h0]
    have g1 : (toCalls l1).length ≤ 1048576 := by rw [toCalls_length]; exact h1
    refine Ev.bind (toCallS_ev l1 h1) ?_
    refine Ev.bind (toIntS_ev l2 hx2) ?_
    refine Ev.bind (spec_ev a0 (toCalls l1) l2 g1 hx2) ?_
    refine Ev.bind (toCallS_ev l1 h1) ?_
    refine Ev.bind (toIntS_ev l2 hx2) ?_
    refine Ev.bind (impl_ev a0 (toCalls l1) l2 g1 hx2) ?_
    have hr : (resP a0 (toCalls l1) l2).1.length ≤ 1048576 := resP_length _ _ _ g1
    refine Ev.bind (eqCallS_ev _ hr) ?_
    simp only [bne_self_eq_false, if_true]
    refine Ev.step (fun k => by simp only [laws_FnExactRenameCalls.j0, Bool.false_eq_true, if_false] <;> exact rfl) ?_
    refine Ev.bind (toCallS_ev l1 h1) ?_
    refine Ev.bind (eqCallS_ev _ g1) ?_
    simp only [if_true]
    refine Ev.bind (toIntS_ev l2 hx2) ?_
    refine Ev.bind (eqIntS_ev _ hx2) ?_
    simp only [if_true]
    refine Ev.bind (markCallS_ev _ 1 g1 (by omega) (by omega)) ?_
    refine Ev.bind (markIntS_ev l2 _ hx2 (by omega) (by omega)) ?_
    have hm : ¬ (1 + 2 * (((toCalls l1).length : Nat) : Int) + (l2.length : Int)) < 0 := by omega
    simp only [if_neg hm]
    refine Ev.bind (eqCallS_ev _ hr) ?_
    simp only [if_true, bne_self_eq_false]
    refine Ev.step (fun k => by simp only [laws_FnExactRenameCalls.j1, Bool.false_eq_true, if_false] <;> exact rfl) ?_
    refine Ev.bind (markCallS_ev _ 1 hr (by omega) (by omega)) ?_
    refine Ev.bind (heldCallS_ev _ 1 hr (by omega) (by omega)) ?_
    have hm2 : ¬ (1 + 2 * (((resP a0 (toCalls l1) l2).1.length : Nat) : Int)) < 0 := by omega
    simp only [if_neg hm2, if_true]
    refine Ev.bind (toCallS_ev l1 h1) ?_
    refine Ev.bind (toIntS_ev l2 hx2) ?_
    refine Ev.bind (impl_ev a0 (toCalls l1) l2 g1 hx2) ?_
    refine Ev.bind (eqCallS_ev _ hr) ?_
    simp only [if_true, bne_self_eq_false]
    refine Ev.step (fun k => by simp only [laws_FnExactRenameCalls.j2, Bool.false_eq_true, if_false] <;> exact rfl) ?_
    refine Ev.bind (heldCallS_ev _ 1 hr (by omega) (by omega)) ?_
    simp only [if_neg hm2, if_true]
    exact ev_now _
  · simp only [szCallS_great l1 h1 hl1, Option.bind_some]
    exact ev_now _

end Go.Proofs.Ytelhjfalkhmhkaa.Pure
