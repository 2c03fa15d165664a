/- The pure side of FnExactFewestLetters: program and reference give the same number of letters for every number of friends. No condition beside the argument's own range. -/
import Derived.Test.YtpniceeapbogpaaPFnExactFewestLettersx1
namespace Go.Proofs.Ytpniceeapbogpaa.Pure
open Go.RowKit Go.Proofs.Ytpniceeapbogpaa.PFnExactFewestLetters Go.Proofs.YtpniceeapbogpaaW.PrintWords Go.Proofs.YtpniceeapbogpaaW.PrintLast

theorem FnExactFewestLetters : laws_FnExactFewestLetters.Pure := by
  intro a0 _
  unfold laws_FnExactFewestLetters.f spec_FewestLetters.f impl_FewestLetters.f spec_caFriends.f impl_areFriends.f spec_l1In.f impl_within.f
  by_cases h1 : 1 ≤ a0 <;> by_cases h2 : a0 ≤ 10 <;> simp [h1, h2]

end Go.Proofs.Ytpniceeapbogpaa.Pure
