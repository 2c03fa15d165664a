/- The pure side of FnExactAreCalls: program and reference agree on every number of friends and every list of calls. No condition beside what an argument is. -/
import Derived.Test.YtipihdhghbkpfaaPFnExactAreCallsx15
import Derived.Test.YtipihdhghbkpfaaPBase
namespace Go.Proofs.Ytipihdhghbkpfaa.Pure
open Go.RowKit Go.Proofs.Ytipihdhghbkpfaa.PFnExactAreCalls Go.Proofs.YtipihdhghbkpfaaW.PrintWords Go.Proofs.YtipihdhghbkpfaaW.PrintLast Go.Proofs.Ytipihdhghbkpfaa.PB
/-! calls: read, compared, marked -/
def toCalls (l : List S55) : List S53 := l.map fun c => ⟨c.f0, c.f1⟩
theorem toCalls_length (l : List S55) : (toCalls l).length = l.length := by simp [toCalls]

theorem szCallS_small (l : List S55) (h : l.length ≤ 1048576) : laws_szCallS.f l 1048576 = some (1048576 - (l.length : Int)) := by
  unfold laws_szCallS.f
  rw [w64 (by omega) (by omega), if_neg (by omega)]
theorem szCallS_great (l : List S55) (h : ¬ l.length ≤ 1048576) (h2 : l.length ≤ 9223372036854775807) : laws_szCallS.f l 1048576 = some (-1) := by
  unfold laws_szCallS.f
  rw [w64 (by omega) (by omega), if_pos (by omega)]

theorem toCallS_l0 (l : List S55) (h : l.length ≤ 1048576) : ∀ (d : Nat) (i : Int) (acc : List S53), 0 ≤ i → i + d = l.length → acc.length = l.length →
    (∀ j : Nat, (j : Int) < i → acc.getD j z53 = (toCalls l).getD j z53) → Ev (fun k => laws_toCallS.l0 k l acc i) (toCalls l) := by
  intro d
  induction d with
  | zero =>
    intro i acc h0 hi hl hacc
    refine ev_step (f := fun _ => some acc) (fun k => ?_) ?_
    · simp only [laws_toCallS.l0]; rw [if_neg (by omega)]
    · have : acc = toCalls l := ext_getD z53 (by rw [hl, toCalls_length]) (fun j hj => hacc j (by omega))
      rw [this]; exact ev_now _
  | succ d ih =>
    intro i acc h0 hi hl hacc
    refine ev_step (f := fun k => laws_toCallS.l0 k l (acc.set i.toNat ⟨(l.getD i.toNat z55).f0, (l.getD i.toNat z55).f1⟩) (i + 1)) (fun k => ?_) ?_
    · simp only [laws_toCallS.l0, laws_toCall.f, rd_T55, Option.bind_some]
      rw [if_pos (by omega), if_pos h0, if_pos (by omega), w64 (by omega) (by omega)]
    · refine ih (i + 1) _ (by omega) (by omega) (by simpa using hl) (fun j hj => ?_)
      rw [getD_set _ _ _ _ _ (by omega)]
      split
      · rename_i e
        subst e
        rw [toCalls, getD_map (fun c : S55 => (⟨c.f0, c.f1⟩ : S53)) l i.toNat z55 z53 (by omega)]
      · exact hacc j (by omega)
theorem toCallS_ev (l : List S55) (h : l.length ≤ 1048576) : Ev (fun k => laws_toCallS.f k l) (toCalls l) := by
  unfold laws_toCallS.f
  have h1 : (0 : Int) ≤ (l.length : Int) := by omega
  have h2 : ((l.length : Int)).toNat ≤ 17592186044416 := by omega
  simp only [if_pos h1, if_pos h2]
  exact toCallS_l0 l h l.length 0 _ (by omega) (by omega) (by simp) (fun j hj => by omega)

theorem eqCallS_l0 (a : List S53) (h : a.length ≤ 1048576) : ∀ (d : Nat) (i : Int), 0 ≤ i → i + d = a.length → Ev (fun k => laws_eqCallS.l0 k a a i) true := by
  intro d
  induction d with
  | zero =>
    intro i h0 hi
    refine ev_step (f := fun _ => some true) (fun k => ?_) (ev_now _)
    simp only [laws_eqCallS.l0]; rw [if_neg (by omega)]
  | succ d ih =>
    intro i h0 hi
    refine ev_step (f := fun k => laws_eqCallS.l0 k a a (i + 1)) (fun k => ?_) (ih _ (by omega) (by omega))
    simp only [laws_eqCallS.l0, laws_eqCall.f, if_true, Option.bind_some]
    rw [if_pos (by omega), if_pos h0, if_pos (by omega), w64 (by omega) (by omega)]
theorem eqCallS_ev (a : List S53) (h : a.length ≤ 1048576) : Ev (fun k => laws_eqCallS.f k a a) true := by
  unfold laws_eqCallS.f
  simp only [if_true]
  exact eqCallS_l0 a h a.length 0 (by omega) (by omega)

/-! spec.caGood -/
theorem caFriends_f (n : Int) : spec_caFriends.f n = some (decide (1 ≤ n) && decide (n ≤ 10)) := by
  unfold spec_caFriends.f spec_l1In.f
  by_cases h1 : 1 ≤ n <;> by_cases h2 : n ≤ 10 <;> simp [h1, h2]
theorem caCall_f (n a b : Int) (h1 : 1 ≤ n) (h2 : n ≤ 10) : spec_caCall.f n a b = some (isCallB n a b) := by
  unfold spec_caCall.f spec_l1In.f isCallB
  rw [w64 (by omega) (by omega)]
  by_cases g1 : 0 ≤ a
  · by_cases g2 : a ≤ n - 1
    · rw [w64 (by omega) (by omega)]
      by_cases g3 : a + 1 ≤ b <;> by_cases g4 : b ≤ n - 1
      · have e1 : a < b := by omega
        have e2 : b < n := by omega
        simp [g1, g2, g3, g4, e1, e2]
      · have e1 : a < b := by omega
        have e2 : ¬ b < n := by omega
        simp [g1, g2, g3, g4, e1, e2]
      · have e1 : ¬ a < b := by omega
        simp [g1, g2, g3, e1]
      · have e1 : ¬ a < b := by omega
        simp [g1, g2, g3, e1]
    · by_cases g3 : a < b
      · have e2 : ¬ b < n := by omega
        simp [g1, g2, e2]
      · simp [g1, g2, g3]
  · simp [g1]
theorem caGood_l0 (n : Int) (l : List S53) (h : l.length ≤ 1048576) (h1 : 1 ≤ n) (h2 : n ≤ 10) : ∀ (d : Nat) (i : Int), 0 ≤ i → i + d = l.length →
    Ev (fun k => spec_caGood.l0 k n l (l.length : Int) i) ((l.drop i.toNat).all fun c => isCallB n c.f0 c.f1) := by
  intro d
  induction d with
  | zero =>
    intro i h0 hi
    refine ev_step (f := fun _ => some true) (fun k => ?_) ?_
    · simp only [spec_caGood.l0]; rw [if_neg (by omega)]
    · rw [List.drop_eq_nil_of_le (by omega)]; exact ev_now _
  | succ d ih =>
    intro i h0 hi
    have hd := drop_at l i.toNat z53 (by omega)
    cases hq : isCallB n (l.getD i.toNat z53).f0 (l.getD i.toNat z53).f1 with
    | true =>
      refine ev_step (f := fun k => spec_caGood.l0 k n l (l.length : Int) (i + 1)) (fun k => ?_) ?_
      · simp only [spec_caGood.l0, rd_T53, caCall_f n _ _ h1 h2, Option.bind_some, hq, if_true]
        rw [if_pos (by omega), if_pos h0, if_pos (by omega), w64 (by omega) (by omega)]
      · have := ih (i + 1) (by omega) (by omega)
        rw [hd, List.all_cons, hq, Bool.true_and]
        rwa [show (i + 1).toNat = i.toNat + 1 by omega] at this
    | false =>
      refine ev_step (f := fun _ => some false) (fun k => ?_) ?_
      · simp only [spec_caGood.l0, rd_T53, caCall_f n _ _ h1 h2, Option.bind_some, hq]
        rw [if_pos (by omega), if_pos h0, if_pos (by omega), if_neg (by simp)]
      · rw [hd, List.all_cons, hq, Bool.false_and]; exact ev_now _
theorem caGood_ev (n : Int) (l : List S53) (h : l.length ≤ 1048576) : Ev (fun k => spec_caGood.f k n l) (areCallsB n l) := by
  unfold spec_caGood.f
  simp only [caFriends_f, Option.bind_some]
  by_cases h1 : 1 ≤ n ∧ n ≤ 10
  · obtain ⟨h1, h2⟩ := h1
    by_cases h3 : l.length ≤ 60
    · have e : areCallsB n l = l.all fun c => isCallB n c.f0 c.f1 := by simp [areCallsB, h1, h2, h3]
      rw [e]
      have e2 : decide ((l.length : Int) > 60) = false := by rw [decide_eq_false_iff_not]; omega
      simp only [h1, h2, decide_true, Bool.and_self, if_true, e2]
      refine ev_step (f := fun k => spec_caGood.l0 k n l (l.length : Int) 0) (fun k => by simp [spec_caGood.j0]) ?_
      simpa using caGood_l0 n l h h1 h2 l.length 0 (by omega) (by omega)
    · have e : areCallsB n l = false := by simp [areCallsB, h3]
      rw [e]
      have e2 : decide ((l.length : Int) > 60) = true := by rw [decide_eq_true_eq]; omega
      simp only [h1, h2, decide_true, Bool.and_self, if_true, e2]
      exact ev_step (f := fun _ => some false) (fun k => by simp [spec_caGood.j0]) (ev_now _)
  · have e : areCallsB n l = false := by rw [Bool.eq_false_iff]; intro hh; simp [areCallsB] at hh; exact h1 ⟨hh.1, hh.2.1⟩
    have e1 : (decide (1 ≤ n) && decide (n ≤ 10)) = false := by rw [Bool.eq_false_iff]; simpa using h1
    rw [e]
    simp only [e1]
    exact ev_step (f := fun _ => some false) (fun k => by simp [spec_caGood.j0]) (ev_now _)

theorem FnExactAreCalls : ∀ (a0 : Int) (l1 : (List S55)), (Lit.int .i64 a0).wf = true → l1.length ≤ 9223372036854775807 → ∃ k, laws_FnExactAreCalls.f k a0 l1 = some true := by
  intro a0 l1 _ hl
  apply Ev.rounds
  unfold laws_FnExactAreCalls.f
  by_cases h : l1.length ≤ 1048576
  · simp only [szCallS_small l1 h, Option.bind_some]
    have h0 : ¬ (1048576 - (l1.length : Int)) < 0 := by omega
    simp only [if_neg h0]
    have hl' : (toCalls l1).length ≤ 1048576 := by rw [toCalls_length]; exact h
    refine Ev.bind (toCallS_ev l1 h) ?_
    refine Ev.bind (a := areCallsB a0 (toCalls l1)) ?_ ?_
    · unfold spec_AreCalls.f
      exact Ev.bind (caGood_ev a0 _ hl') (ev_now _)
    · refine Ev.bind (toCallS_ev l1 h) ?_
      simp only [impl_AreCalls.f, Option.bind_some, bne_self_eq_false, Bool.false_eq_true, if_false]
      refine Ev.bind (toCallS_ev l1 h) ?_
      refine Ev.bind (eqCallS_ev _ hl') ?_
      simp only [if_true]
      exact ev_now _
  · simp only [szCallS_great l1 h hl, Option.bind_some]
    exact ev_now _

end Go.Proofs.Ytipihdhghbkpfaa.Pure
