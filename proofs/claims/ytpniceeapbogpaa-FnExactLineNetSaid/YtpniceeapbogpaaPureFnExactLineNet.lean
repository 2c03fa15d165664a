/- The pure side of FnExactLineNet: ten numbers of friends are reckoned by the kernel; every other number fails on both sides. No condition beside the argument's own range. -/
import Derived.Test.YtpniceeapbogpaaPFnExactLineNetx4
namespace Go.Proofs.Ytpniceeapbogpaa.Pure
open Go.RowKit Go.Proofs.Ytpniceeapbogpaa.PFnExactLineNet Go.Proofs.YtpniceeapbogpaaW.PrintWords Go.Proofs.YtpniceeapbogpaaW.PrintLast

theorem LineNet_no (a0 : Int) (k : Nat) (h : ¬ (1 ≤ a0 ∧ a0 ≤ 10)) : spec_LineNet.f k a0 = some ([], false) ∧ impl_LineNet.f k a0 = some ([], false) := by
  unfold spec_LineNet.f impl_LineNet.f spec_neFriends.f impl_areFriends.f spec_l1In.f impl_within.f
  by_cases h1 : 1 ≤ a0
  · have h2 : ¬ a0 ≤ 10 := fun h2 => h ⟨h1, h2⟩
    simp [h1, h2]
  · simp [h1]

theorem FnExactLineNet : laws_FnExactLineNet.Pure := by
  intro a0 _
  by_cases h : 1 ≤ a0 ∧ a0 ≤ 10
  · have hc : a0 = 1 ∨ a0 = 2 ∨ a0 = 3 ∨ a0 = 4 ∨ a0 = 5 ∨ a0 = 6 ∨ a0 = 7 ∨ a0 = 8 ∨ a0 = 9 ∨ a0 = 10 := by omega
    rcases hc with rfl | rfl | rfl | rfl | rfl | rfl | rfl | rfl | rfl | rfl <;> exact ⟨100, by decide +kernel⟩
  · have hn := fun k => LineNet_no a0 k h
    refine ⟨4, ?_⟩
    simp [laws_FnExactLineNet.f, laws_FnExactLineNet.j0, laws_FnExactLineNet.j1, hn, laws_eqCallS.f, laws_eqCallS.l0, laws_markCallS.f, laws_markCallS.l0, laws_heldCallS.f, laws_heldCallS.l0]

end Go.Proofs.Ytpniceeapbogpaa.Pure
