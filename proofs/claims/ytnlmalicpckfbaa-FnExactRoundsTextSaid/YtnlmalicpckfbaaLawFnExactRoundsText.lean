-- Written by the session's mkprint.py: the row of the law FnExactRoundsText, out of its pure statement and the walk.
import Derived.Test.YtnlmalicpckfbaaRows
import Derived.Test.YtnlmalicpckfbaaPFnExactRoundsTextx17
import Derived.Test.YtnlmalicpckfbaaHBase
import Derived.Test.YtnlmalicpckfbaaPureFnExactRoundsText
import Derived.Test.YtnlmalicpckfbaaHRows
import Derived.WalkKit
import Derived.ProofKit
import Derived.OpenShut
import Derived.ShutString
import Derived.ChangeOld
import Derived.Below
import Derived.SizedLaws
namespace Go.Proofs.Ytnlmalicpckfbaa.fnExactRoundsText
open Go.ChangeShapes Go.WideShapes Go.ChangeAt Go.RowKit Go.Proofs.Ytnlmalicpckfbaa.PFnExactRoundsText Go.Proofs.YtnlmalicpckfbaaW.PrintWords
open Go.ChangeMaps (open_string shut_string)
set_option linter.unusedVariables false
theorem own : ownKnob Try.prog.godebug = none := by kernel_rfl
theorem laidOut : laidOutB Try.prog = true := by kernel_rfl
instance inh88 : Inhabited S88 := ⟨z88⟩
set_option maxRecDepth 100000 in
theorem lifted (os : Os) (started : os.Started) (H : Type) (enc : TypeId × Value → H) :
    ReturnsInHanded {} Try.checked os 9 .any (Rows.fnExactRoundsTextSpec.pre6 enc Try.prog Try.f9 Rows.fnExactRoundsTextRow.domain false) (Rows.fnExactRoundsTextSpec.post enc Try.prog Try.f9 false true false false) := by
  refine returnsInHanded_of_change_sized (C := Try.checked) own started (by kernel_rfl) Try.func9
    (ChangeSpec.witness6 (enc := enc) (C := Try.checked) false ⟨#[], #[.slice none 0 0], []⟩ 8 (by kernel_rfl) (by kernel_rfl) (by kernel_rfl) (by kernel_rfl)) ?_
  intro W base args ds gs before hval0 hW hcnd hsz0 _
  have hsz : (DataW.weightsEach Try.prog (Try.f9.params.toList ++ Rows.fnExactRoundsTextSpec.plain.varTypes Try.prog) (ds ++ gs)).all (· ≤ reachBytes) = true := hsz0
  have hval : ∀ (j : Nat) t v, Try.f9.params[j]? = some t → args[j]? = some v → Value.okWide Try.prog W .any base t v := hval0
  have hW' := hW
  obtain ⟨p, q, hA0, hV, rfl, hfz, hnd⟩ := hW
  have hA : DataW.TrodAll enc Try.prog W 0 (fun _ => true) true Try.f9.params.toList args.toList ds p := hA0
  rw [Try.params9] at hA hval hsz
  obtain ⟨v0, vs0, d0, ds0, p0, q0, hargs, rfl, rfl, h0, r0⟩ := trodAll_cons hA
  obtain ⟨rfl, rfl, rfl⟩ := trodAll_nil r0
  obtain rfl : args = #[v0] := by cases args; simp_all
  obtain ⟨rfl, rfl⟩ := trodVars_none hV
  obtain ⟨a0, len0, cap0, rfl⟩ := okWide_slice Try.underlying51 (hval 0 51 v0 rfl rfl)
  have k0 := h0
  have lt0 : ∀ x ∈ p0, x.block < W.heap.size := by obtain ⟨m, hm⟩ := k0; exact DataW.trod_lt m _ _ _ hm
  obtain ⟨l0, n0, c0, C0⟩ : ∃ l : List (List S88), l.length = len0 ∧ len0 ≤ cap0 ∧ Kd.C (Kd.slice 88 k88) W a0 l.length l := by
    obtain ⟨fuel, hf⟩ := h0
    exact Go.Proofs.Ytnlmalicpckfbaa.H.reads_slice Try.underlying51 (Go.Proofs.Ytnlmalicpckfbaa.H.opens_slice Try.underlying40 (by kernel_rfl) (Go.Proofs.Ytnlmalicpckfbaa.H.opens_pair (d := k88) (fun a b => ⟨a, b⟩) (fun a b => k88_mk W ⟨a, b⟩) rfl Try.underlying88 (by kernel_rfl) rfl rfl (by kernel_rfl) (by kernel_rfl) Try.underlying3 Try.underlying3)) (by simpa [Value.cells] using hf)
  subst n0
  clear hA0 hval0 hsz0 hsz
  obtain ⟨kq, hkq⟩ := Pure.FnExactRoundsText l0 (Kd.C_max C0) (Go.Proofs.Ytnlmalicpckfbaa.H.rows_max C0)
  refine (laws_FnExactRoundsText.calls kq a0 cap0 l0 true W C0 c0 hkq).mono fun e W' ⟨he, hb⟩ => ?_
  have bel : Below W.heap.size W W' := hb
  subst he
  exact ⟨_, rfl, _, _, _, [], _, [], hW', trodAll_mk1 (shut_bool Try.underlying4 _), (trodAll_cons_mk (Below.trod laidOut (by kernel_rfl) (of_decide_eq_true (by kernel_rfl)) k0 bel lt0) trodAll_mk0), rfl, bel.frame _, fun h => by cases h⟩
theorem over : Rows.fnExactRoundsTextRow.holds Try.pinned (OpenSpec.ofChange Rows.fnExactRoundsTextSpec) :=
  OpenClaim.holds_of_wide 9 Try.f9 rfl rfl rfl rfl rfl rfl rfl ⟨rfl, rfl, rfl, rfl, rfl⟩ rfl rfl rfl rfl rfl (by kernel_rfl) Try.func9 (by kernel_rfl)
    (of_decide_eq_true (by kernel_rfl)) (by unfold Func.isWrapper; first | (rw [if_pos (by decide +kernel)]; kernel_rfl) | (rw [if_neg (by decide +kernel)]; exact ⟨rfl, rfl⟩))
    (fun os started H enc _ => lifted os started H enc)
theorem proved : Rows.FnExactRoundsTextSaid := over
#print axioms proved
end Go.Proofs.Ytnlmalicpckfbaa.fnExactRoundsText
namespace Go.Proofs.Ytnlmalicpckfbaa
/-- The row, under a short name, for the claim. -/
theorem fnExactRoundsText_holds : Rows.FnExactRoundsTextSaid := fnExactRoundsText.proved
end Go.Proofs.Ytnlmalicpckfbaa
