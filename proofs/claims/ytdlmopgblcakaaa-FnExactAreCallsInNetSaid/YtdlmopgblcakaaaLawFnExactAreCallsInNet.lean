-- Written by the session's mkprint.py: the row of the law FnExactAreCallsInNet, out of its pure statement and the walk.
import Derived.Test.YtdlmopgblcakaaaRows
import Derived.Test.YtdlmopgblcakaaaPFnExactAreCallsInNetx17
import Derived.Test.YtdlmopgblcakaaaHBase
import Derived.Test.YtdlmopgblcakaaaPureFnExactAreCallsInNet
import Derived.WalkKit
import Derived.ProofKit
import Derived.OpenShut
import Derived.ShutString
import Derived.ChangeOld
import Derived.Below
import Derived.SizedLaws
namespace Go.Proofs.Ytdlmopgblcakaaa.fnExactAreCallsInNet
open Go.ChangeShapes Go.WideShapes Go.ChangeAt Go.RowKit Go.Proofs.Ytdlmopgblcakaaa.PFnExactAreCallsInNet Go.Proofs.YtdlmopgblcakaaaW.PrintWords
open Go.ChangeMaps (open_string shut_string)
set_option linter.unusedVariables false
theorem own : ownKnob Try.prog.godebug = none := by kernel_rfl
theorem laidOut : laidOutB Try.prog = true := by kernel_rfl
instance inh56 : Inhabited S56 := ⟨z56⟩
set_option maxRecDepth 100000 in
theorem lifted (os : Os) (started : os.Started) (H : Type) (enc : TypeId × Value → H) :
    ReturnsInHanded {} Try.checked os 8 .any (Rows.fnExactAreCallsInNetSpec.pre6 enc Try.prog Try.f8 Rows.fnExactAreCallsInNetRow.domain false) (Rows.fnExactAreCallsInNetSpec.post enc Try.prog Try.f8 false true false false) := by
  refine returnsInHanded_of_change_sized (C := Try.checked) own started (by kernel_rfl) Try.func8
    (ChangeSpec.witness6 (enc := enc) (C := Try.checked) false ⟨#[], #[.int .i64 0, .slice none 0 0, .slice none 0 0], []⟩ 8 (by kernel_rfl) (by kernel_rfl) (by kernel_rfl) (by kernel_rfl)) ?_
  intro W base args ds gs before hval0 hW hcnd hsz0 _
  have hsz : (DataW.weightsEach Try.prog (Try.f8.params.toList ++ Rows.fnExactAreCallsInNetSpec.plain.varTypes Try.prog) (ds ++ gs)).all (· ≤ reachBytes) = true := hsz0
  have hval : ∀ (j : Nat) t v, Try.f8.params[j]? = some t → args[j]? = some v → Value.okWide Try.prog W .any base t v := hval0
  have hW' := hW
  obtain ⟨p, q, hA0, hV, rfl, hfz, hnd⟩ := hW
  have hA : DataW.TrodAll enc Try.prog W 0 (fun _ => true) true Try.f8.params.toList args.toList ds p := hA0
  rw [Try.params8] at hA hval hsz
  obtain ⟨v0, vs0, d0, ds0, p0, q0, hargs, rfl, rfl, h0, r0⟩ := trodAll_cons hA
  obtain ⟨v1, vs1, d1, ds1, p1, q1, rfl, rfl, rfl, h1, r1⟩ := trodAll_cons r0
  obtain ⟨v2, vs2, d2, ds2, p2, q2, rfl, rfl, rfl, h2, r2⟩ := trodAll_cons r1
  obtain ⟨rfl, rfl, rfl⟩ := trodAll_nil r2
  obtain rfl : args = #[v0, v1, v2] := by cases args; simp_all
  obtain ⟨rfl, rfl⟩ := trodVars_none hV
  obtain ⟨a0, rfl, rfl, rfl, w0⟩ := open_int Try.underlying3 (hval 0 3 v0 rfl rfl) h0
  obtain ⟨a1, len1, cap1, rfl⟩ := okWide_slice Try.underlying28 (hval 1 28 v1 rfl rfl)
  have k1 := h1
  have lt1 : ∀ x ∈ p1, x.block < W.heap.size := by obtain ⟨m, hm⟩ := k1; exact DataW.trod_lt m _ _ _ hm
  obtain ⟨l1, n1, c1, C1⟩ : ∃ l : List S56, l.length = len1 ∧ len1 ≤ cap1 ∧ Kd.C k56 W a1 l.length l := by
    obtain ⟨fuel, hf⟩ := h1
    exact Go.Proofs.Ytdlmopgblcakaaa.H.reads_slice Try.underlying28 (Go.Proofs.Ytdlmopgblcakaaa.H.opens_pair (d := k56) (fun a b => ⟨a, b⟩) (fun a b => k56_mk W ⟨a, b⟩) rfl Try.underlying56 (by kernel_rfl) rfl rfl (by kernel_rfl) (by kernel_rfl) Try.underlying3 Try.underlying3) (by simpa [Value.cells] using hf)
  subst n1
  obtain ⟨a2, len2, cap2, rfl⟩ := okWide_slice Try.underlying28 (hval 2 28 v2 rfl rfl)
  have k2 := h2
  have lt2 : ∀ x ∈ p2, x.block < W.heap.size := by obtain ⟨m, hm⟩ := k2; exact DataW.trod_lt m _ _ _ hm
  obtain ⟨l2, n2, c2, C2⟩ : ∃ l : List S56, l.length = len2 ∧ len2 ≤ cap2 ∧ Kd.C k56 W a2 l.length l := by
    obtain ⟨fuel, hf⟩ := h2
    exact Go.Proofs.Ytdlmopgblcakaaa.H.reads_slice Try.underlying28 (Go.Proofs.Ytdlmopgblcakaaa.H.opens_pair (d := k56) (fun a b => ⟨a, b⟩) (fun a b => k56_mk W ⟨a, b⟩) rfl Try.underlying56 (by kernel_rfl) rfl rfl (by kernel_rfl) (by kernel_rfl) Try.underlying3 Try.underlying3) (by simpa [Value.cells] using hf)
  subst n2
  clear hA0 hval0 hsz0 hsz
  obtain ⟨kq, hkq⟩ := Pure.FnExactAreCallsInNet a0 l1 l2 w0 (Kd.C_max C1) (Kd.C_max C2)
  refine (laws_FnExactAreCallsInNet.calls kq a0 a1 cap1 l1 a2 cap2 l2 true W C1 c1 C2 c2 hkq).mono fun e W' ⟨he, hb⟩ => ?_
  have bel : Below W.heap.size W W' := hb
  subst he
  exact ⟨_, rfl, _, _, _, [], _, [], hW', trodAll_mk1 (shut_bool Try.underlying4 _), (trodAll_cons_mk (shut_int Try.underlying3 w0) (trodAll_cons_mk (Below.trod laidOut (by kernel_rfl) (of_decide_eq_true (by kernel_rfl)) k1 bel lt1) (trodAll_cons_mk (Below.trod laidOut (by kernel_rfl) (of_decide_eq_true (by kernel_rfl)) k2 bel lt2) trodAll_mk0))), rfl, bel.frame _, fun h => by cases h⟩
theorem over : Rows.fnExactAreCallsInNetRow.holds Try.pinned (OpenSpec.ofChange Rows.fnExactAreCallsInNetSpec) :=
  OpenClaim.holds_of_wide 8 Try.f8 rfl rfl rfl rfl rfl rfl rfl ⟨rfl, rfl, rfl, rfl, rfl⟩ rfl rfl rfl rfl rfl (by kernel_rfl) Try.func8 (by kernel_rfl)
    (of_decide_eq_true (by kernel_rfl)) (by unfold Func.isWrapper; first | (rw [if_pos (by decide +kernel)]; kernel_rfl) | (rw [if_neg (by decide +kernel)]; exact ⟨rfl, rfl⟩))
    (fun os started H enc _ => lifted os started H enc)
theorem proved : Rows.FnExactAreCallsInNetSaid := over
#print axioms proved
end Go.Proofs.Ytdlmopgblcakaaa.fnExactAreCallsInNet
namespace Go.Proofs.Ytdlmopgblcakaaa
/-- The row, under a short name, for the claim. -/
theorem fnExactAreCallsInNet_holds : Rows.FnExactAreCallsInNetSaid := fnExactAreCallsInNet.proved
end Go.Proofs.Ytdlmopgblcakaaa
