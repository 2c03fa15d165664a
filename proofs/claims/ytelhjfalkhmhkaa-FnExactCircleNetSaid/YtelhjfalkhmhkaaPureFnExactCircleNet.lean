/- The pure side of FnExactCircleNet: eight numbers of friends are reckoned by the kernel; every other number fails on both sides. No condition beside the argument's own range. -/
import Derived.Test.YtelhjfalkhmhkaaPFnExactCircleNetx8
namespace Go.Proofs.Ytelhjfalkhmhkaa.Pure
open Go.RowKit Go.Proofs.Ytelhjfalkhmhkaa.PFnExactCircleNet Go.Proofs.YtelhjfalkhmhkaaW.PrintWords Go.Proofs.YtelhjfalkhmhkaaW.PrintLast

theorem CircleNet_no (a0 : Int) (k : Nat) (h : ¬ (3 ≤ a0 ∧ a0 ≤ 10)) : spec_CircleNet.f k a0 = some ([], false) ∧ impl_CircleNet.f k a0 = some ([], false) := by
  unfold spec_CircleNet.f impl_CircleNet.f spec_l1In.f impl_within.f
  by_cases h1 : 3 ≤ a0
  · have h2 : ¬ a0 ≤ 10 := fun h2 => h ⟨h1, h2⟩
    simp [h1, h2]
  · simp [h1]

theorem FnExactCircleNet : laws_FnExactCircleNet.Pure := by
  intro a0 _
  by_cases h : 3 ≤ a0 ∧ a0 ≤ 10
  · have hc : a0 = 3 ∨ a0 = 4 ∨ a0 = 5 ∨ a0 = 6 ∨ a0 = 7 ∨ a0 = 8 ∨ a0 = 9 ∨ a0 = 10 := by omega
    rcases hc with rfl | rfl | rfl | rfl | rfl | rfl | rfl | rfl <;> exact ⟨200, by decide +kernel⟩
  · have hn := fun k => CircleNet_no a0 k h
    refine ⟨4, ?_⟩
    simp [laws_FnExactCircleNet.f, laws_FnExactCircleNet.j0, laws_FnExactCircleNet.j1, hn, laws_eqCallS.f, laws_eqCallS.l0, laws_markCallS.f, laws_markCallS.l0, laws_heldCallS.f, laws_heldCallS.l0]

end Go.Proofs.Ytelhjfalkhmhkaa.Pure
