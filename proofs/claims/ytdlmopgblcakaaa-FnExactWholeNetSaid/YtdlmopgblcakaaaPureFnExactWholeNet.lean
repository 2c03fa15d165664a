/- The pure side of FnExactWholeNet: ten numbers of friends are reckoned by the kernel; every other number fails on both sides. No condition beside the argument's own range. -/
import Derived.Test.YtdlmopgblcakaaaPFnExactWholeNetx8
namespace Go.Proofs.Ytdlmopgblcakaaa.Pure
open Go.RowKit Go.Proofs.Ytdlmopgblcakaaa.PFnExactWholeNet Go.Proofs.YtdlmopgblcakaaaW.PrintWords Go.Proofs.YtdlmopgblcakaaaW.PrintLast

theorem WholeNet_no (a0 : Int) (k : Nat) (h : ¬ (1 ≤ a0 ∧ a0 ≤ 10)) : spec_WholeNet.f k a0 = some ([], false) ∧ impl_WholeNet.f k a0 = some ([], false) := by
  unfold spec_WholeNet.f impl_WholeNet.f spec_neFriends.f impl_areFriends.f spec_l1In.f impl_within.f
  by_cases h1 : 1 ≤ a0
  · have h2 : ¬ a0 ≤ 10 := fun h2 => h ⟨h1, h2⟩
    simp [h1, h2]
  · simp [h1]

theorem FnExactWholeNet : laws_FnExactWholeNet.Pure := by
  intro a0 _
  by_cases h : 1 ≤ a0 ∧ a0 ≤ 10
  · have hc : a0 = 1 ∨ a0 = 2 ∨ a0 = 3 ∨ a0 = 4 ∨ a0 = 5 ∨ a0 = 6 ∨ a0 = 7 ∨ a0 = 8 ∨ a0 = 9 ∨ a0 = 10 := by omega
    rcases hc with rfl | rfl | rfl | rfl | rfl | rfl | rfl | rfl | rfl | rfl <;> exact ⟨200, by decide +kernel⟩
  · have hn := fun k => WholeNet_no a0 k h
    refine ⟨4, ?_⟩
    simp [laws_FnExactWholeNet.f, laws_FnExactWholeNet.j0, laws_FnExactWholeNet.j1, hn, laws_eqCallS.f, laws_eqCallS.l0, laws_markCallS.f, laws_markCallS.l0, laws_heldCallS.f, laws_heldCallS.l0]

end Go.Proofs.Ytdlmopgblcakaaa.Pure
