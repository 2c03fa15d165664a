-- Written by the session's mkprint.py over the kit's print.py (function texts marked OURS are the session's own).
import Derived.Test.YtelhjfalkhmhkaaPFnExactCircleNetx0
import Derived.Test.YtelhjfalkhmhkaaHInsertC
import Derived.Test.YtelhjfalkhmhkaaPFnExactCircleNetx6
namespace Go.Proofs.Ytelhjfalkhmhkaa.PFnExactCircleNet
open Go.RowKit Go.Proofs.YtelhjfalkhmhkaaW.PrintWords Go.Proofs.YtelhjfalkhmhkaaW.PrintLast Go.Proofs.YtelhjfalkhmhkaaW.PrintMore
attribute [local go_sem] max2_int min2_int max_two min_two max_three min_three max_four min_four   -- for this text's walks alone
set_option linter.unusedVariables false
set_option linter.unusedSimpArgs false

/-! ### impl_CircleNet: OURS: function 18 -/
instance : Inhabited S64 := ⟨z64⟩
def circ (a : Int) : List S64 × Bool → Option (List S64 × Bool)
  | (x0 :: rest, _) => if 1 ≤ rest.length ∧ rest.length ≤ 50 then some (x0 :: ⟨0, wrap64 (a - 1)⟩ :: rest, true) else none
  | ([], _) => none
def impl_CircleNet.f (k : Nat) (a0 : Int) : Option (List S64 × Bool) := (impl_within.f a0 3 10).bind fun t => if t = true then ((impl_LineNet.f k a0).bind (circ a0)) else some ([], false)
theorem impl_CircleNet.mono : ∀ a0 k, LeO (impl_CircleNet.f k a0) (impl_CircleNet.f (k + 1) a0) := fun a0 k => LeO.bind (LeO.refl _) (fun _ => LeO.ite (LeO.bind (impl_LineNet.mono _ _) (fun _ => LeO.refl _)) (LeO.refl _))
set_option maxHeartbeats 1000000 in
set_option maxRecDepth 100000 in
theorem impl_CircleNet.calls (k : Nat) (a0 : Int) (r1 : List S64) (r2 : Bool) (w : World) (h : impl_CircleNet.f k a0 = some (r1, r2)) :
    Calls Try.prog 18 #[.int .i64 a0] w fun e w' => ∃ v0_ : Value, e = .returned (.tuple #[v0_, .bool r2]) ∧ Kd.R k64 64 w' w.heap.size (fun _ => True) v0_ r1 ∧ Below w.heap.size w w' := by
  have hu := Try.underlying64
  obtain ⟨t, ht, h'⟩ := Option.bind_eq_some_iff.1 h
  clear h
  have hA := fun W2 => impl_within.calls a0 3 10 t W2 ht
  clear ht
  cases t with
  | false =>
    simp only [Bool.false_eq_true, if_false, Option.some.injEq, Prod.mk.injEq] at h'
    obtain ⟨rfl, rfl⟩ := h'
    go_enter Try.func18, Try.ntmps18
    go_wp2_with (go_at_call 55; refine (hA _).mono ?_; rintro e w1 ⟨rfl, ⟨nd, rfl⟩⟩)
    go_ret2
    exact ⟨_, rfl, Kd.R_nil _ _ _ _ _, pw_below_drewN (Below.refl _ _) _⟩
  | true =>
    simp only [if_true] at h'
    obtain ⟨⟨l, lb⟩, hl, h2⟩ := Option.bind_eq_some_iff.1 h'
    clear h'
    have hL := fun W2 => impl_LineNet.calls k a0 l lb W2 hl
    clear hl
    cases l with
    | nil => cases h2
    | cons x0 rest =>
      simp only [circ] at h2
      by_cases hr : 1 ≤ rest.length ∧ rest.length ≤ 50
      case neg => rw [if_neg hr] at h2; cases h2
      rw [if_pos hr] at h2
      simp only [Option.some.injEq, Prod.mk.injEq] at h2
      obtain ⟨rfl, rfl⟩ := h2
      have HR1 := Aside0.mk hr
      clear hr
      go_enter Try.func18, Try.ntmps18
      go_wp2_with (first | (go_at_call 55; refine (hA _).mono ?_; rintro e w1 ⟨rfl, ⟨nd, rfl⟩⟩) | (go_at_call 56; refine (hL _).mono ?_; rintro e w3 ⟨v3, rfl, ho3, hb3⟩; have HO3 := Aside0.mk ho3; have HB3 := Aside0.mk hb3; clear ho3 hb3))
      have hR := Kd.R_below HO3.out (below_alloc (Below.refl _ w3) (.cells #[.int .i64 0, .int .i64 (wrap64 (a0 - 1))] 64))
      have hne : v3.ownBlock ≠ some w3.heap.size := fun he => by
        have := (Kd.R_bound HO3.out).1 _ he
        omega
      have hi := Go.Proofs.Ytelhjfalkhmhkaa.H.insert_R (d := k64) (fa := S64.f0) (fb := S64.f1) rfl (fun _ _ _ h => k64_open h) (z := z64) rfl rfl (fun w b o x => k64_mkM w b o x) _ w3.heap.size 64 x0 ⟨0, wrap64 (a0 - 1)⟩ rest v3 _ (Nat.le_trans HB3.out.size (below_size (below_alloc (Below.refl w3.heap.size w3) (.cells #[.int .i64 0, .int .i64 (wrap64 (a0 - 1))] 64)))) hR HR1.out.1 HR1.out.2 (blk_new _ _) hne
      clear hR hne
      refine hi.mono ?_
      rintro e w4 ⟨v4, rfl, ho4, hb4⟩
      have HO4 := Aside0.mk ho4
      have HB4 := Aside0.mk hb4
      clear hi ho4 hb4
      go_wp2
      go_ret2
      have b1 := below_alloc (below_step (pw_below_drewN (Below.refl w.heap.size w) nd) HB3.out) (.cells #[.int .i64 0, .int .i64 (wrap64 (a0 - 1))] 64)
      exact ⟨_, rfl, HO4.out, b1.trans HB4.out⟩


end Go.Proofs.Ytelhjfalkhmhkaa.PFnExactCircleNet
