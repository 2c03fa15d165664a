/- The pure side of FnExactStarNet: the 55 numbers of friends with one of them are reckoned by the kernel; all else fails on both sides. No condition beside the arguments' own range. -/
import Derived.Test.YtelhjfalkhmhkaaPFnExactStarNetx9
namespace Go.Proofs.Ytelhjfalkhmhkaa.Pure
open Go.RowKit Go.Proofs.Ytelhjfalkhmhkaa.PFnExactStarNet Go.Proofs.YtelhjfalkhmhkaaW.PrintWords Go.Proofs.YtelhjfalkhmhkaaW.PrintLast
set_option linter.unusedSimpArgs false
set_option maxRecDepth 100000

theorem star_no (a0 a1 : Int) (k : Nat) (h : ¬ ((1 ≤ a0 ∧ a0 ≤ 10) ∧ 0 ≤ a1 ∧ a1 < a0)) : spec_StarNet.f k a0 a1 = some ([], false) ∧ impl_StarNet.f k a0 a1 = some ([], false) := by
  unfold spec_StarNet.f impl_StarNet.f spec_neFriends.f impl_areFriends.f impl_isFriend.f spec_l1In.f impl_within.f
  by_cases h1 : 1 ≤ a0
  · by_cases h2 : a0 ≤ 10
    · have e : wrap64 (a0 - 1) = a0 - 1 := by unfold wrap64; omega
      rw [e]
      by_cases h3 : 0 ≤ a1
      · have h4 : ¬ a1 ≤ a0 - 1 := fun h4 => h ⟨⟨h1, h2⟩, h3, by omega⟩
        simp [h1, h2, h3, h4]
      · simp [h1, h2, h3]
    · simp [h1, h2]
  · simp [h1]
theorem star_all : ∀ n : Fin 10, ∀ a : Fin 10, a.val ≤ n.val → laws_FnExactStarNet.f 200 ((n.val + 1 : Nat) : Int) (a.val : Int) = some true := by decide +kernel
theorem FnExactStarNet : laws_FnExactStarNet.Pure := by
  intro a0 a1 _ _
  by_cases h : (1 ≤ a0 ∧ a0 ≤ 10) ∧ 0 ≤ a1 ∧ a1 < a0
  · have := star_all ⟨(a0 - 1).toNat, by omega⟩ ⟨a1.toNat, by omega⟩ (by show a1.toNat ≤ (a0 - 1).toNat; omega)
    simp only [show (((a0 - 1).toNat + 1 : Nat) : Int) = a0 by omega, show ((a1.toNat : Nat) : Int) = a1 by omega] at this
    exact ⟨200, this⟩
  · have hn := fun k => star_no a0 a1 k h
    refine ⟨4, ?_⟩
    simp [laws_FnExactStarNet.f, laws_FnExactStarNet.j0, laws_FnExactStarNet.j1, hn, laws_eqCallS.f, laws_eqCallS.l0, laws_markCallS.f, laws_markCallS.l0, laws_heldCallS.f, laws_heldCallS.l0]

end Go.Proofs.Ytelhjfalkhmhkaa.Pure
