/- The pure side of FnExactRingLetters: ten numbers of friends are reckoned by the kernel; every other number fails on both sides. No condition beside the argument's own range. -/
import Derived.Test.YtpniceeapbogpaaPFnExactRingLettersx3
namespace Go.Proofs.Ytpniceeapbogpaa.Pure
open Go.RowKit Go.Proofs.Ytpniceeapbogpaa.PFnExactRingLetters Go.Proofs.YtpniceeapbogpaaW.PrintWords Go.Proofs.YtpniceeapbogpaaW.PrintLast

theorem RingLetters_no (a0 : Int) (k : Nat) (h : ¬ (1 ≤ a0 ∧ a0 ≤ 10)) : spec_RingLetters.f k a0 = some ([], false) ∧ impl_RingLetters.f k a0 = some ([], false) := by
  unfold spec_RingLetters.f impl_RingLetters.f spec_caFriends.f impl_areFriends.f spec_l1In.f impl_within.f
  by_cases h1 : 1 ≤ a0
  · have h2 : ¬ a0 ≤ 10 := fun h2 => h ⟨h1, h2⟩
    simp [h1, h2]
  · simp [h1]

theorem FnExactRingLetters : laws_FnExactRingLetters.Pure := by
  intro a0 _
  by_cases h : 1 ≤ a0 ∧ a0 ≤ 10
  · have hc : a0 = 1 ∨ a0 = 2 ∨ a0 = 3 ∨ a0 = 4 ∨ a0 = 5 ∨ a0 = 6 ∨ a0 = 7 ∨ a0 = 8 ∨ a0 = 9 ∨ a0 = 10 := by omega
    rcases hc with rfl | rfl | rfl | rfl | rfl | rfl | rfl | rfl | rfl | rfl <;> exact ⟨100, by decide +kernel⟩
  · have hn := fun k => RingLetters_no a0 k h
    refine ⟨4, ?_⟩
    simp [laws_FnExactRingLetters.f, laws_FnExactRingLetters.j0, laws_FnExactRingLetters.j1, hn, laws_eqLetterS.f, laws_eqLetterS.l0, laws_markLetterS.f, laws_markLetterS.l0, laws_heldLetterS.f, laws_heldLetterS.l0]

end Go.Proofs.Ytpniceeapbogpaa.Pure
