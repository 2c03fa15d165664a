/- The pure side of FnExactStarLetters: the few inputs at which there is a list are reckoned by the kernel; every other fails on both sides. No condition beside the arguments' own range. -/
import Derived.Test.YtchdgmamkafcnaaPFnExactStarLettersx10
namespace Go.Proofs.Ytchdgmamkafcnaa.Pure
open Go.RowKit Go.Proofs.Ytchdgmamkafcnaa.PFnExactStarLetters Go.Proofs.YtchdgmamkafcnaaW.PrintWords Go.Proofs.YtchdgmamkafcnaaW.PrintLast

set_option linter.unusedSimpArgs false
theorem star_no (a0 a1 : Int) (k : Nat) (h : ¬ ((1 ≤ a0 ∧ a0 ≤ 10) ∧ 0 ≤ a1 ∧ a1 < a0)) : spec_StarLetters.f (k + 1) a0 a1 = some ([], false) ∧ impl_StarLetters.f (k + 1) a0 a1 = some ([], false) := by
  unfold spec_StarLetters.f impl_StarLetters.f spec_caFriends.f impl_areFriends.f impl_isFriend.f spec_l1In.f impl_within.f
  by_cases h1 : 1 ≤ a0
  · by_cases h2 : a0 ≤ 10
    · have e : wrap64 (a0 - 1) = a0 - 1 := by unfold wrap64; omega
      by_cases h3 : 0 ≤ a1
      · have h4 : ¬ a1 ≤ a0 - 1 := by omega
        simp [h1, h2, h3, h4, e, spec_StarLetters.j0, impl_StarLetters.j0]
      · simp [h1, h2, h3, e, spec_StarLetters.j0, impl_StarLetters.j0]
    · simp [h1, h2, spec_StarLetters.j0, impl_StarLetters.j0]
  · simp [h1, spec_StarLetters.j0, impl_StarLetters.j0]
theorem star_all : ∀ i : Fin 11, ∀ j : Fin 10, j.val < i.val → laws_FnExactStarLetters.f 100 (i.val : Int) (j.val : Int) = some true := by decide +kernel

theorem FnExactStarLetters : laws_FnExactStarLetters.Pure := by
  intro a0 a1 _ _
  by_cases h : (1 ≤ a0 ∧ a0 ≤ 10) ∧ 0 ≤ a1 ∧ a1 < a0
  · have hs := star_all ⟨a0.toNat, by omega⟩ ⟨a1.toNat, by omega⟩ (by simp only; omega)
    simp only [show ((a0.toNat : Nat) : Int) = a0 by omega, show ((a1.toNat : Nat) : Int) = a1 by omega] at hs
    exact ⟨100, hs⟩
  · have h5 : spec_StarLetters.f 5 a0 a1 = some ([], false) ∧ impl_StarLetters.f 5 a0 a1 = some ([], false) := star_no a0 a1 4 h
    have h4 : spec_StarLetters.f 4 a0 a1 = some ([], false) ∧ impl_StarLetters.f 4 a0 a1 = some ([], false) := star_no a0 a1 3 h
    refine ⟨5, ?_⟩
    simp [laws_FnExactStarLetters.f, laws_FnExactStarLetters.j0, laws_FnExactStarLetters.j1, h4, h5, laws_eqLetterS.f, laws_eqLetterS.l0, laws_markLetterS.f, laws_markLetterS.l0, laws_heldLetterS.f, laws_heldLetterS.l0]

end Go.Proofs.Ytchdgmamkafcnaa.Pure
