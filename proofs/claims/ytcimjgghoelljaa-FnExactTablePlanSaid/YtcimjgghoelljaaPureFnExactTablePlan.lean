/- The pure side of FnExactTablePlan: the few numbers of friends at which there is a list are reckoned by the kernel; every other fails on both sides. No condition beside the argument's own range. -/
import Derived.Test.YtcimjgghoelljaaPFnExactTablePlanx8
namespace Go.Proofs.Ytcimjgghoelljaa.Pure
open Go.RowKit Go.Proofs.Ytcimjgghoelljaa.PFnExactTablePlan Go.Proofs.YtcimjgghoelljaaW.PrintWords Go.Proofs.YtcimjgghoelljaaW.PrintLast
set_option linter.unusedSimpArgs false

theorem plan_no (a0 : Int) (k : Nat) (h : ¬ (1 ≤ a0 ∧ a0 ≤ 10)) : spec_TablePlan.f k a0 = some ([], false) ∧ impl_TablePlan.f k a0 = some ([], false) := by
  unfold spec_TablePlan.f impl_TablePlan.f spec_caFriends.f impl_areFriends.f spec_l1In.f impl_within.f
  by_cases h1 : 1 ≤ a0
  · have h2 : ¬ a0 ≤ 10 := fun h2 => h ⟨h1, h2⟩
    simp [h1, h2]
  · simp [h1]
theorem plan_all : ∀ i : Fin 11, 1 ≤ i.val → laws_FnExactTablePlan.f 200 (i.val : Int) = some true := by decide +kernel

theorem FnExactTablePlan : laws_FnExactTablePlan.Pure := by
  intro a0 _
  by_cases h : 1 ≤ a0 ∧ a0 ≤ 10
  · have hs := plan_all ⟨a0.toNat, by omega⟩ (by simp only; omega)
    simp only [show ((a0.toNat : Nat) : Int) = a0 by omega] at hs
    exact ⟨200, hs⟩
  · have hn := fun k => plan_no a0 k h
    refine ⟨5, ?_⟩
    simp [laws_FnExactTablePlan.f, laws_FnExactTablePlan.j0, laws_FnExactTablePlan.j1, hn, laws_eqCallS.f, laws_eqCallS.l0, laws_markCallS.f, laws_markCallS.l0, laws_heldCallS.f, laws_heldCallS.l0]

end Go.Proofs.Ytcimjgghoelljaa.Pure
