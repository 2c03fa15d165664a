/- The pure side of FnExactFewestCalls: program and reference give the same number of calls for every number of friends. No condition beside the argument's own range. -/
import Derived.Test.YtpniceeapbogpaaPFnExactFewestCallsx1
namespace Go.Proofs.Ytpniceeapbogpaa.Pure
open Go.RowKit Go.Proofs.Ytpniceeapbogpaa.PFnExactFewestCalls Go.Proofs.YtpniceeapbogpaaW.PrintWords Go.Proofs.YtpniceeapbogpaaW.PrintLast

theorem few_same (a : Int) : impl_fewestCalls.f a = spec_caFew.f a := rfl

theorem few_some (a : Int) : ∃ r, spec_caFew.f a = some r := by
  unfold spec_caFew.f
  repeat' split
  all_goals exact ⟨_, rfl⟩

theorem FnExactFewestCalls : laws_FnExactFewestCalls.Pure := by
  intro a0 _
  obtain ⟨r, hr⟩ := few_some a0
  unfold laws_FnExactFewestCalls.f spec_FewestCalls.f impl_FewestCalls.f spec_caFriends.f impl_areFriends.f spec_l1In.f impl_within.f
  by_cases h1 : 1 ≤ a0 <;> by_cases h2 : a0 ≤ 10 <;> simp [h1, h2, few_same, hr]

end Go.Proofs.Ytpniceeapbogpaa.Pure
