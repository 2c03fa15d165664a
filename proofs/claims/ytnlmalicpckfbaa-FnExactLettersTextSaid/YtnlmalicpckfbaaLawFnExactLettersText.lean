-- Written by the session's mkprint.py: the row of the law FnExactLettersText, out of its pure statement and the walk.
import Derived.Test.YtnlmalicpckfbaaRows
import Derived.Test.YtnlmalicpckfbaaPFnExactLettersTextx9
import Derived.Test.YtnlmalicpckfbaaHBase
import Derived.Test.YtnlmalicpckfbaaPureFnExactLettersText
import Derived.WalkKit
import Derived.ProofKit
import Derived.OpenShut
import Derived.ShutString
import Derived.ChangeOld
import Derived.Below
import Derived.SizedLaws
namespace Go.Proofs.Ytnlmalicpckfbaa.fnExactLettersText
open Go.ChangeShapes Go.WideShapes Go.ChangeAt Go.RowKit Go.Proofs.Ytnlmalicpckfbaa.PFnExactLettersText Go.Proofs.YtnlmalicpckfbaaW.PrintWords
open Go.ChangeMaps (open_string shut_string)
set_option linter.unusedVariables false
theorem own : ownKnob Try.prog.godebug = none := by kernel_rfl
theorem laidOut : laidOutB Try.prog = true := by kernel_rfl
instance inh92 : Inhabited S92 := ⟨z92⟩
set_option maxRecDepth 100000 in
theorem lifted (os : Os) (started : os.Started) (H : Type) (enc : TypeId × Value → H) :
    ReturnsInHanded {} Try.checked os 8 .any (Rows.fnExactLettersTextSpec.pre6 enc Try.prog Try.f8 Rows.fnExactLettersTextRow.domain false) (Rows.fnExactLettersTextSpec.post enc Try.prog Try.f8 false true false false) := by
  refine returnsInHanded_of_change_sized (C := Try.checked) own started (by kernel_rfl) Try.func8
    (ChangeSpec.witness6 (enc := enc) (C := Try.checked) false ⟨#[], #[.slice none 0 0], []⟩ 8 (by kernel_rfl) (by kernel_rfl) (by kernel_rfl) (by kernel_rfl)) ?_
  intro W base args ds gs before hval0 hW hcnd hsz0 _
  have hsz : (DataW.weightsEach Try.prog (Try.f8.params.toList ++ Rows.fnExactLettersTextSpec.plain.varTypes Try.prog) (ds ++ gs)).all (· ≤ reachBytes) = true := hsz0
  have hval : ∀ (j : Nat) t v, Try.f8.params[j]? = some t → args[j]? = some v → Value.okWide Try.prog W .any base t v := hval0
  have hW' := hW
  obtain ⟨p, q, hA0, hV, rfl, hfz, hnd⟩ := hW
  have hA : DataW.TrodAll enc Try.prog W 0 (fun _ => true) true Try.f8.params.toList args.toList ds p := hA0
  rw [Try.params8] at hA hval hsz
  obtain ⟨v0, vs0, d0, ds0, p0, q0, hargs, rfl, rfl, h0, r0⟩ := trodAll_cons hA
  obtain ⟨rfl, rfl, rfl⟩ := trodAll_nil r0
  obtain rfl : args = #[v0] := by cases args; simp_all
  obtain ⟨rfl, rfl⟩ := trodVars_none hV
  obtain ⟨a0, len0, cap0, rfl⟩ := okWide_slice Try.underlying46 (hval 0 46 v0 rfl rfl)
  have k0 := h0
  have lt0 : ∀ x ∈ p0, x.block < W.heap.size := by obtain ⟨m, hm⟩ := k0; exact DataW.trod_lt m _ _ _ hm
  obtain ⟨l0, n0, c0, C0⟩ : ∃ l : List S92, l.length = len0 ∧ len0 ≤ cap0 ∧ Kd.C k92 W a0 l.length l := by
    obtain ⟨fuel, hf⟩ := h0
    exact Go.Proofs.Ytnlmalicpckfbaa.H.reads_slice Try.underlying46 (Go.Proofs.Ytnlmalicpckfbaa.H.opens_pair (d := k92) (fun a b => ⟨a, b⟩) (fun a b => k92_mk W ⟨a, b⟩) rfl Try.underlying92 (by kernel_rfl) rfl rfl (by kernel_rfl) (by kernel_rfl) Try.underlying3 Try.underlying3) (by simpa [Value.cells] using hf)
  subst n0
  clear hA0 hval0 hsz0 hsz
  obtain ⟨kq, hkq⟩ := Pure.FnExactLettersText l0 (Kd.C_max C0)
  refine (laws_FnExactLettersText.calls kq a0 cap0 l0 true W C0 c0 hkq).mono fun e W' ⟨he, hb⟩ => ?_
  have bel : Below W.heap.size W W' := hb
  subst he
  exact ⟨_, rfl, _, _, _, [], _, [], hW', trodAll_mk1 (shut_bool Try.underlying4 _), (trodAll_cons_mk (Below.trod laidOut (by kernel_rfl) (of_decide_eq_true (by kernel_rfl)) k0 bel lt0) trodAll_mk0), rfl, bel.frame _, fun h => by cases h⟩
theorem over : Rows.fnExactLettersTextRow.holds Try.pinned (OpenSpec.ofChange Rows.fnExactLettersTextSpec) :=
  OpenClaim.holds_of_wide 8 Try.f8 rfl rfl rfl rfl rfl rfl rfl ⟨rfl, rfl, rfl, rfl, rfl⟩ rfl rfl rfl rfl rfl (by kernel_rfl) Try.func8 (by kernel_rfl)
    (of_decide_eq_true (by kernel_rfl)) (by unfold Func.isWrapper; first | (rw [if_pos (by decide +kernel)]; kernel_rfl) | (rw [if_neg (by decide +kernel)]; exact ⟨rfl, rfl⟩))
    (fun os started H enc _ => lifted os started H enc)
theorem proved : Rows.FnExactLettersTextSaid := over
#print axioms proved
end Go.Proofs.Ytnlmalicpckfbaa.fnExactLettersText
namespace Go.Proofs.Ytnlmalicpckfbaa
/-- The row, under a short name, for the claim. -/
theorem fnExactLettersText_holds : Rows.FnExactLettersTextSaid := fnExactLettersText.proved
end Go.Proofs.Ytnlmalicpckfbaa
