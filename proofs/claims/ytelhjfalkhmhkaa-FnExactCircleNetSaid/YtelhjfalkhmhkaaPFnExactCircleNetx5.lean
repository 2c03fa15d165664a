-- Written by the session's mkprint.py over the kit's print.py (function texts marked OURS are the session's own).
import Derived.Test.YtelhjfalkhmhkaaPFnExactCircleNetx0
namespace Go.Proofs.Ytelhjfalkhmhkaa.PFnExactCircleNet
open Go.RowKit Go.Proofs.YtelhjfalkhmhkaaW.PrintWords Go.Proofs.YtelhjfalkhmhkaaW.PrintLast Go.Proofs.YtelhjfalkhmhkaaW.PrintMore
attribute [local go_sem] max2_int min2_int max_two min_two max_three min_three max_four min_four   -- for this text's walks alone
set_option linter.unusedVariables false
set_option linter.unusedSimpArgs false

/-! ### spec_neWhole: function 48 -/
mutual
def spec_neWhole.l0 : Nat → Int → Int → Int → List (S64) → Int → Option ((List (S64)))
 | 0, _, _, _, _, _ => none
 | k + 1, x0, x1, x2, x7, x8 => if x8 < x0 then (spec_neWhole.l1 k x0 x1 x2 x7 x8 (wrap64 (x8 + 1))) else (some x7)
def spec_neWhole.l1 : Nat → Int → Int → Int → List (S64) → Int → Int → Option ((List (S64)))
 | 0, _, _, _, _, _, _ => none
 | k + 1, x0, x1, x2, x7, x8, x9 => if x9 < x0 then (if x8 = 0 then (if x8 = x2 then (if x1 = 0 then (if x9 = (wrap64 (x8 + 1)) then (if x7.length < 8796093022208 then (spec_neWhole.l1 k x0 x1 x2 (x7 ++ [(⟨x8, x9⟩ : S64)]) x8 (wrap64 (x9 + 1))) else (none)) else (if x1 = 1 then (if x9 = (wrap64 (x0 - 1)) then (if x7.length < 8796093022208 then (spec_neWhole.l1 k x0 x1 x2 (x7 ++ [(⟨x8, x9⟩ : S64)]) x8 (wrap64 (x9 + 1))) else (none)) else (if x1 = 2 then (if x7.length < 8796093022208 then (spec_neWhole.l1 k x0 x1 x2 (x7 ++ [(⟨x8, x9⟩ : S64)]) x8 (wrap64 (x9 + 1))) else (none)) else (if x1 = 3 then (if x7.length < 8796093022208 then (spec_neWhole.l1 k x0 x1 x2 (x7 ++ [(⟨x8, x9⟩ : S64)]) x8 (wrap64 (x9 + 1))) else (none)) else (spec_neWhole.l1 k x0 x1 x2 x7 x8 (wrap64 (x9 + 1)))))) else (if x1 = 2 then (if x7.length < 8796093022208 then (spec_neWhole.l1 k x0 x1 x2 (x7 ++ [(⟨x8, x9⟩ : S64)]) x8 (wrap64 (x9 + 1))) else (none)) else (if x1 = 3 then (if x7.length < 8796093022208 then (spec_neWhole.l1 k x0 x1 x2 (x7 ++ [(⟨x8, x9⟩ : S64)]) x8 (wrap64 (x9 + 1))) else (none)) else (spec_neWhole.l1 k x0 x1 x2 x7 x8 (wrap64 (x9 + 1))))))) else (if x1 = 1 then (if x9 = (wrap64 (x8 + 1)) then (if x7.length < 8796093022208 then (spec_neWhole.l1 k x0 x1 x2 (x7 ++ [(⟨x8, x9⟩ : S64)]) x8 (wrap64 (x9 + 1))) else (none)) else (if x9 = (wrap64 (x0 - 1)) then (if x7.length < 8796093022208 then (spec_neWhole.l1 k x0 x1 x2 (x7 ++ [(⟨x8, x9⟩ : S64)]) x8 (wrap64 (x9 + 1))) else (none)) else (if x1 = 2 then (if x7.length < 8796093022208 then (spec_neWhole.l1 k x0 x1 x2 (x7 ++ [(⟨x8, x9⟩ : S64)]) x8 (wrap64 (x9 + 1))) else (none)) else (if x1 = 3 then (if x7.length < 8796093022208 then (spec_neWhole.l1 k x0 x1 x2 (x7 ++ [(⟨x8, x9⟩ : S64)]) x8 (wrap64 (x9 + 1))) else (none)) else (spec_neWhole.l1 k x0 x1 x2 x7 x8 (wrap64 (x9 + 1))))))) else (if x1 = 2 then (if x7.length < 8796093022208 then (spec_neWhole.l1 k x0 x1 x2 (x7 ++ [(⟨x8, x9⟩ : S64)]) x8 (wrap64 (x9 + 1))) else (none)) else (if x1 = 3 then (if x7.length < 8796093022208 then (spec_neWhole.l1 k x0 x1 x2 (x7 ++ [(⟨x8, x9⟩ : S64)]) x8 (wrap64 (x9 + 1))) else (none)) else (spec_neWhole.l1 k x0 x1 x2 x7 x8 (wrap64 (x9 + 1))))))) else (if x1 = 0 then (if x9 = (wrap64 (x8 + 1)) then (if x7.length < 8796093022208 then (spec_neWhole.l1 k x0 x1 x2 (x7 ++ [(⟨x8, x9⟩ : S64)]) x8 (wrap64 (x9 + 1))) else (none)) else (if x1 = 1 then (if x9 = (wrap64 (x0 - 1)) then (if x7.length < 8796093022208 then (spec_neWhole.l1 k x0 x1 x2 (x7 ++ [(⟨x8, x9⟩ : S64)]) x8 (wrap64 (x9 + 1))) else (none)) else (if x1 = 2 then (if x9 = x2 then (if x7.length < 8796093022208 then (spec_neWhole.l1 k x0 x1 x2 (x7 ++ [(⟨x8, x9⟩ : S64)]) x8 (wrap64 (x9 + 1))) else (none)) else (if x1 = 3 then (if x7.length < 8796093022208 then (spec_neWhole.l1 k x0 x1 x2 (x7 ++ [(⟨x8, x9⟩ : S64)]) x8 (wrap64 (x9 + 1))) else (none)) else (spec_neWhole.l1 k x0 x1 x2 x7 x8 (wrap64 (x9 + 1))))) else (if x1 = 3 then (if x7.length < 8796093022208 then (spec_neWhole.l1 k x0 x1 x2 (x7 ++ [(⟨x8, x9⟩ : S64)]) x8 (wrap64 (x9 + 1))) else (none)) else (spec_neWhole.l1 k x0 x1 x2 x7 x8 (wrap64 (x9 + 1)))))) else (if x1 = 2 then (if x9 = x2 then (if x7.length < 8796093022208 then (spec_neWhole.l1 k x0 x1 x2 (x7 ++ [(⟨x8, x9⟩ : S64)]) x8 (wrap64 (x9 + 1))) else (none)) else (if x1 = 3 then (if x7.length < 8796093022208 then (spec_neWhole.l1 k x0 x1 x2 (x7 ++ [(⟨x8, x9⟩ : S64)]) x8 (wrap64 (x9 + 1))) else (none)) else (spec_neWhole.l1 k x0 x1 x2 x7 x8 (wrap64 (x9 + 1))))) else (if x1 = 3 then (if x7.length < 8796093022208 then (spec_neWhole.l1 k x0 x1 x2 (x7 ++ [(⟨x8, x9⟩ : S64)]) x8 (wrap64 (x9 + 1))) else (none)) else (spec_neWhole.l1 k x0 x1 x2 x7 x8 (wrap64 (x9 + 1))))))) else (if x1 = 1 then (if x9 = (wrap64 (x8 + 1)) then (if x7.length < 8796093022208 then (spec_neWhole.l1 k x0 x1 x2 (x7 ++ [(⟨x8, x9⟩ : S64)]) x8 (wrap64 (x9 + 1))) else (none)) else (if x9 = (wrap64 (x0 - 1)) then (if x7.length < 8796093022208 then (spec_neWhole.l1 k x0 x1 x2 (x7 ++ [(⟨x8, x9⟩ : S64)]) x8 (wrap64 (x9 + 1))) else (none)) else (if x1 = 2 then (if x9 = x2 then (if x7.length < 8796093022208 then (spec_neWhole.l1 k x0 x1 x2 (x7 ++ [(⟨x8, x9⟩ : S64)]) x8 (wrap64 (x9 + 1))) else (none)) else (if x1 = 3 then (if x7.length < 8796093022208 then (spec_neWhole.l1 k x0 x1 x2 (x7 ++ [(⟨x8, x9⟩ : S64)]) x8 (wrap64 (x9 + 1))) else (none)) else (spec_neWhole.l1 k x0 x1 x2 x7 x8 (wrap64 (x9 + 1))))) else (if x1 = 3 then (if x7.length < 8796093022208 then (spec_neWhole.l1 k x0 x1 x2 (x7 ++ [(⟨x8, x9⟩ : S64)]) x8 (wrap64 (x9 + 1))) else (none)) else (spec_neWhole.l1 k x0 x1 x2 x7 x8 (wrap64 (x9 + 1))))))) else (if x1 = 2 then (if x9 = x2 then (if x7.length < 8796093022208 then (spec_neWhole.l1 k x0 x1 x2 (x7 ++ [(⟨x8, x9⟩ : S64)]) x8 (wrap64 (x9 + 1))) else (none)) else (if x1 = 3 then (if x7.length < 8796093022208 then (spec_neWhole.l1 k x0 x1 x2 (x7 ++ [(⟨x8, x9⟩ : S64)]) x8 (wrap64 (x9 + 1))) else (none)) else (spec_neWhole.l1 k x0 x1 x2 x7 x8 (wrap64 (x9 + 1))))) else (if x1 = 3 then (if x7.length < 8796093022208 then (spec_neWhole.l1 k x0 x1 x2 (x7 ++ [(⟨x8, x9⟩ : S64)]) x8 (wrap64 (x9 + 1))) else (none)) else (spec_neWhole.l1 k x0 x1 x2 x7 x8 (wrap64 (x9 + 1)))))))) else (if x8 = x2 then (if x1 = 0 then (if x9 = (wrap64 (x8 + 1)) then (if x7.length < 8796093022208 then (spec_neWhole.l1 k x0 x1 x2 (x7 ++ [(⟨x8, x9⟩ : S64)]) x8 (wrap64 (x9 + 1))) else (none)) else (if x1 = 1 then (if x1 = 2 then (if x7.length < 8796093022208 then (spec_neWhole.l1 k x0 x1 x2 (x7 ++ [(⟨x8, x9⟩ : S64)]) x8 (wrap64 (x9 + 1))) else (none)) else (if x1 = 3 then (if x7.length < 8796093022208 then (spec_neWhole.l1 k x0 x1 x2 (x7 ++ [(⟨x8, x9⟩ : S64)]) x8 (wrap64 (x9 + 1))) else (none)) else (spec_neWhole.l1 k x0 x1 x2 x7 x8 (wrap64 (x9 + 1))))) else (if x1 = 2 then (if x7.length < 8796093022208 then (spec_neWhole.l1 k x0 x1 x2 (x7 ++ [(⟨x8, x9⟩ : S64)]) x8 (wrap64 (x9 + 1))) else (none)) else (if x1 = 3 then (if x7.length < 8796093022208 then (spec_neWhole.l1 k x0 x1 x2 (x7 ++ [(⟨x8, x9⟩ : S64)]) x8 (wrap64 (x9 + 1))) else (none)) else (spec_neWhole.l1 k x0 x1 x2 x7 x8 (wrap64 (x9 + 1))))))) else (if x1 = 1 then (if x9 = (wrap64 (x8 + 1)) then (if x7.length < 8796093022208 then (spec_neWhole.l1 k x0 x1 x2 (x7 ++ [(⟨x8, x9⟩ : S64)]) x8 (wrap64 (x9 + 1))) else (none)) else (if x1 = 2 then (if x7.length < 8796093022208 then (spec_neWhole.l1 k x0 x1 x2 (x7 ++ [(⟨x8, x9⟩ : S64)]) x8 (wrap64 (x9 + 1))) else (none)) else (if x1 = 3 then (if x7.length < 8796093022208 then (spec_neWhole.l1 k x0 x1 x2 (x7 ++ [(⟨x8, x9⟩ : S64)]) x8 (wrap64 (x9 + 1))) else (none)) else (spec_neWhole.l1 k x0 x1 x2 x7 x8 (wrap64 (x9 + 1)))))) else (if x1 = 2 then (if x7.length < 8796093022208 then (spec_neWhole.l1 k x0 x1 x2 (x7 ++ [(⟨x8, x9⟩ : S64)]) x8 (wrap64 (x9 + 1))) else (none)) else (if x1 = 3 then (if x7.length < 8796093022208 then (spec_neWhole.l1 k x0 x1 x2 (x7 ++ [(⟨x8, x9⟩ : S64)]) x8 (wrap64 (x9 + 1))) else (none)) else (spec_neWhole.l1 k x0 x1 x2 x7 x8 (wrap64 (x9 + 1))))))) else (if x1 = 0 then (if x9 = (wrap64 (x8 + 1)) then (if x7.length < 8796093022208 then (spec_neWhole.l1 k x0 x1 x2 (x7 ++ [(⟨x8, x9⟩ : S64)]) x8 (wrap64 (x9 + 1))) else (none)) else (if x1 = 1 then (if x1 = 2 then (if x9 = x2 then (if x7.length < 8796093022208 then (spec_neWhole.l1 k x0 x1 x2 (x7 ++ [(⟨x8, x9⟩ : S64)]) x8 (wrap64 (x9 + 1))) else (none)) else (if x1 = 3 then (if x7.length < 8796093022208 then (spec_neWhole.l1 k x0 x1 x2 (x7 ++ [(⟨x8, x9⟩ : S64)]) x8 (wrap64 (x9 + 1))) else (none)) else (spec_neWhole.l1 k x0 x1 x2 x7 x8 (wrap64 (x9 + 1))))) else (if x1 = 3 then (if x7.length < 8796093022208 then (spec_neWhole.l1 k x0 x1 x2 (x7 ++ [(⟨x8, x9⟩ : S64)]) x8 (wrap64 (x9 + 1))) else (none)) else (spec_neWhole.l1 k x0 x1 x2 x7 x8 (wrap64 (x9 + 1))))) else (if x1 = 2 then (if x9 = x2 then (if x7.length < 8796093022208 then (spec_neWhole.l1 k x0 x1 x2 (x7 ++ [(⟨x8, x9⟩ : S64)]) x8 (wrap64 (x9 + 1))) else (none)) else (if x1 = 3 then (if x7.length < 8796093022208 then (spec_neWhole.l1 k x0 x1 x2 (x7 ++ [(⟨x8, x9⟩ : S64)]) x8 (wrap64 (x9 + 1))) else (none)) else (spec_neWhole.l1 k x0 x1 x2 x7 x8 (wrap64 (x9 + 1))))) else (if x1 = 3 then (if x7.length < 8796093022208 then (spec_neWhole.l1 k x0 x1 x2 (x7 ++ [(⟨x8, x9⟩ : S64)]) x8 (wrap64 (x9 + 1))) else (none)) else (spec_neWhole.l1 k x0 x1 x2 x7 x8 (wrap64 (x9 + 1))))))) else (if x1 = 1 then (if x9 = (wrap64 (x8 + 1)) then (if x7.length < 8796093022208 then (spec_neWhole.l1 k x0 x1 x2 (x7 ++ [(⟨x8, x9⟩ : S64)]) x8 (wrap64 (x9 + 1))) else (none)) else (if x1 = 2 then (if x9 = x2 then (if x7.length < 8796093022208 then (spec_neWhole.l1 k x0 x1 x2 (x7 ++ [(⟨x8, x9⟩ : S64)]) x8 (wrap64 (x9 + 1))) else (none)) else (if x1 = 3 then (if x7.length < 8796093022208 then (spec_neWhole.l1 k x0 x1 x2 (x7 ++ [(⟨x8, x9⟩ : S64)]) x8 (wrap64 (x9 + 1))) else (none)) else (spec_neWhole.l1 k x0 x1 x2 x7 x8 (wrap64 (x9 + 1))))) else (if x1 = 3 then (if x7.length < 8796093022208 then (spec_neWhole.l1 k x0 x1 x2 (x7 ++ [(⟨x8, x9⟩ : S64)]) x8 (wrap64 (x9 + 1))) else (none)) else (spec_neWhole.l1 k x0 x1 x2 x7 x8 (wrap64 (x9 + 1)))))) else (if x1 = 2 then (if x9 = x2 then (if x7.length < 8796093022208 then (spec_neWhole.l1 k x0 x1 x2 (x7 ++ [(⟨x8, x9⟩ : S64)]) x8 (wrap64 (x9 + 1))) else (none)) else (if x1 = 3 then (if x7.length < 8796093022208 then (spec_neWhole.l1 k x0 x1 x2 (x7 ++ [(⟨x8, x9⟩ : S64)]) x8 (wrap64 (x9 + 1))) else (none)) else (spec_neWhole.l1 k x0 x1 x2 x7 x8 (wrap64 (x9 + 1))))) else (if x1 = 3 then (if x7.length < 8796093022208 then (spec_neWhole.l1 k x0 x1 x2 (x7 ++ [(⟨x8, x9⟩ : S64)]) x8 (wrap64 (x9 + 1))) else (none)) else (spec_neWhole.l1 k x0 x1 x2 x7 x8 (wrap64 (x9 + 1))))))))) else (spec_neWhole.l0 k x0 x1 x2 x7 (wrap64 (x8 + 1)))
end
def spec_neWhole.f (k : Nat) (a0 : Int) (a1 : Int) (a2 : Int) : Option ((List (S64))) := spec_neWhole.l0 k a0 a1 a2 ([] : List (S64)) 0
theorem spec_neWhole.mono_l : ∀ k, (∀ y0 y1 y2 y3 y4, LeO (spec_neWhole.l0 k y0 y1 y2 y3 y4) (spec_neWhole.l0 (k + 1) y0 y1 y2 y3 y4)) ∧ (∀ y0 y1 y2 y3 y4 y5, LeO (spec_neWhole.l1 k y0 y1 y2 y3 y4 y5) (spec_neWhole.l1 (k + 1) y0 y1 y2 y3 y4 y5))
 | 0 => ⟨fun _ _ _ _ _ r h => by simp [spec_neWhole.l0] at h, fun _ _ _ _ _ _ r h => by simp [spec_neWhole.l1] at h⟩
 | k + 1 => by
  obtain ⟨ih0, ih1⟩ := spec_neWhole.mono_l k
  refine ⟨?_, ?_⟩
  ·intro y0 y1 y2 y3 y4
   unfold spec_neWhole.l0
   repeat' first
   | (with_reducible exact ih0 _ _ _ _ _)
   | (with_reducible exact ih1 _ _ _ _ _ _)
   | (with_reducible exact LeO.refl _)
   | (with_reducible exact LeO.none _)
   | (with_reducible refine LeO.ite ?_ ?_)
   | (with_reducible refine LeO.bind ?_ (fun _ => ?_))
   | exact ih0 _ _ _ _ _
   | exact ih1 _ _ _ _ _ _
   | exact LeO.none _
   | refine LeO.ite ?_ ?_
   | refine LeO.bind ?_ (fun _ => ?_)
  ·intro y0 y1 y2 y3 y4 y5
   unfold spec_neWhole.l1
   repeat' first
   | (with_reducible exact ih0 _ _ _ _ _)
   | (with_reducible exact ih1 _ _ _ _ _ _)
   | (with_reducible exact LeO.refl _)
   | (with_reducible exact LeO.none _)
   | (with_reducible refine LeO.ite ?_ ?_)
   | (with_reducible refine LeO.bind ?_ (fun _ => ?_))
   | exact ih0 _ _ _ _ _
   | exact ih1 _ _ _ _ _ _
   | exact LeO.none _
   | refine LeO.ite ?_ ?_
   | refine LeO.bind ?_ (fun _ => ?_)
theorem spec_neWhole.mono : ∀ a0 a1 a2 k, LeO (spec_neWhole.f k a0 a1 a2) (spec_neWhole.f (k + 1) a0 a1 a2) := by
 intro a0 a1 a2 k
 obtain ⟨ih0, ih1⟩ := spec_neWhole.mono_l k
 unfold spec_neWhole.f
 repeat' first
   | (with_reducible exact ih0 _ _ _ _ _)
   | (with_reducible exact ih1 _ _ _ _ _ _)
   | (with_reducible exact LeO.refl _)
   | (with_reducible exact LeO.none _)
   | (with_reducible refine LeO.ite ?_ ?_)
   | (with_reducible refine LeO.bind ?_ (fun _ => ?_))
   | exact ih0 _ _ _ _ _
   | exact ih1 _ _ _ _ _ _
   | exact LeO.none _
   | refine LeO.ite ?_ ?_
   | refine LeO.bind ?_ (fun _ => ?_)
set_option maxHeartbeats 8000000 in
set_option maxRecDepth 100000 in
theorem spec_neWhole.calls (k : Nat) (a0 : Int) (a1 : Int) (a2 : Int) (r : List (S64)) (w : World) (h : spec_neWhole.f k a0 a1 a2 = some r) :
  Calls Try.prog 48 #[.int .i64 a0, .int .i64 a1, .int .i64 a2] w fun e w' => ∃ v0_ : Value, e = .returned (v0_) ∧ Kd.R k64 64 w' w.heap.size (fun _ => True) v0_ r ∧ Below w.heap.size w w' := by
 have hu64 := Try.underlying64
 have HB := Aside0.mk (Below.refl w.heap.size w)
 have H : (spec_neWhole.l0 k a0 a1 a2 ([] : List (S64)) 0) = some r := h
 clear h
 have H' := Aside0.mk H
 clear H
 go_enter Try.func48, Try.ntmps48
 go_wp2
 go_loopg [7, 8] k (fun kq v7 v8 w' => ∃ (x7_1 : List (S64)) (x8_1 : Int), v8 = .int .i64 x8_1 ∧ Aside0 (spec_neWhole.l0 kq a0 a1 a2 x7_1 x8_1 = some r) ∧ Aside0 (kq ≤ k) ∧ Aside0 (Kd.R k64 64 w' w.heap.size (fun _ => True) v7 x7_1) ∧ Aside0 (Below w.heap.size w w'))
 case atStart => exact ⟨(([] : List (S64))), (0), (by first | rfl | (simp; done) | (simp [*]; done)), H', ⟨Nat.le_refl _⟩, ⟨by first | exact Kd.R_nil _ _ _ _ _ | exact Kd.N_nil _ _ _ _ _ | exact Kd.V_nil _ _ _ _ _ | exact Kd.Q_nil _ _ _ _ _ | exact Kd.S_nil _ _ _ _ _⟩, ⟨by repeat (first | (with_reducible first | exact HB.out | apply below_alloc | apply pw_below_drewN | apply below_drew1) | exact HB.out)⟩⟩
 case round =>
  clear H'
  try clear p2
  obtain ⟨x7_1, x8_1, rfl, HA, HK1, HO_7, HB⟩ := hrel
  cases gk with
  | zero => exact absurd HA.out (by simp [spec_neWhole.l0])
  | succ k1 =>
   have H := HA.out
   clear HA
   simp only [spec_neWhole.l0] at H
   by_cases c4 : x8_1 < a0
   ·rw [if_pos c4] at H
    have c4b0 : decide (x8_1 < a0) = true := decide_eq_true c4
    clear c4
    have H' := Aside0.mk H
    clear H
    go_wp2
    go_loopg [7, 9] k1 (fun kq v7 v9 w' => ∃ (x7_2 : List (S64)) (x9_2 : Int), v9 = .int .i64 x9_2 ∧ Aside0 (spec_neWhole.l1 kq a0 a1 a2 x7_2 x8_1 x9_2 = some r) ∧ Aside0 (kq ≤ k1) ∧ Aside0 (Kd.R k64 64 w' w.heap.size (fun _ => True) v7 x7_2) ∧ Aside0 (Below w.heap.size w w'))
    case atStart => exact ⟨(x7_1), (wrap64 (x8_1 + 1)), (by first | rfl | (simp; done) | (simp [*]; done)), H', ⟨Nat.le_refl _⟩, ⟨by (with_reducible repeat (first | apply Kd.R_alloc | apply Kd.R_drewN | apply Kd.R_drew)); exact HO_7.out⟩, ⟨by repeat (first | (with_reducible first | exact HB.out | apply below_alloc | apply pw_below_drewN | apply below_drew1) | exact HB.out)⟩⟩
    case round =>
     clear H'
     try clear p2
     try clear c4
     try clear c4b0
     try clear p2
     obtain ⟨x7_2, x9_2, rfl, HA, HK2, HO_7, HB⟩ := hrel
     cases gk with
     | zero => exact absurd HA.out (by simp [spec_neWhole.l1])
     | succ k2 =>
      have H := HA.out
      clear HA
      simp only [spec_neWhole.l1] at H
      by_cases c5 : x9_2 < a0
      ·rw [if_pos c5] at H
       have c5b0 : decide (x9_2 < a0) = true := decide_eq_true c5
       clear c5
       by_cases c6 : x8_1 = 0
       ·rw [if_pos c6] at H
        have c6b0 : (x8_1 == 0) = true := beq_iff_eq.mpr c6
        have c6b1 : (x8_1 != 0) = false := bne_eq_false_iff_eq.mpr c6
        clear c6
        by_cases c7 : x8_1 = a2
        ·rw [if_pos c7] at H
         have c7b0 : (x8_1 == a2) = true := beq_iff_eq.mpr c7
         have c7b1 : (x8_1 != a2) = false := bne_eq_false_iff_eq.mpr c7
         clear c7
         by_cases c8 : a1 = 0
         ·rw [if_pos c8] at H
          have c8b0 : (a1 == 0) = true := beq_iff_eq.mpr c8
          have c8b1 : (a1 != 0) = false := bne_eq_false_iff_eq.mpr c8
          clear c8
          by_cases c9 : x9_2 = (wrap64 (x8_1 + 1))
          ·rw [if_pos c9] at H
           have c9b0 : (x9_2 == (wrap64 (x8_1 + 1))) = true := beq_iff_eq.mpr c9
           have c9b1 : (x9_2 != (wrap64 (x8_1 + 1))) = false := bne_eq_false_iff_eq.mpr c9
           clear c9
           by_cases c10 : x7_2.length < 8796093022208
           ·rw [if_pos c10] at H
            have LMc10 := Aside0.mk c10
            clear c10
            obtain ⟨y110, hy110⟩ : ∃ y_ : List (S64), y_ = (x7_2 ++ [(⟨x8_1, x9_2⟩ : S64)]) := ⟨_, rfl⟩
            replace H : (spec_neWhole.l1 k2 a0 a1 a2 y110 x8_1 (wrap64 (x9_2 + 1))) = some r := by first | (rw [hy110]; with_reducible exact H) | (have H2_ := (Option.bind_some _ _).symm.trans H; rw [hy110]; with_reducible exact H2_) | (have H2_ := (Option.bind_some _ _).symm.trans H; with_reducible exact H2_) | with_reducible exact H | (rw [hy110]; exact H) | exact H
            have Ny110 := Aside0.mk hy110
            clear hy110
            have H' := Aside0.mk H
            clear H
            go_wp2_with (first | ((with_reducible refine gate_builtin (b := .append) (xs := #[.tmp 71, .tmp 75]) rfl ?_); at_builtin; refine Kd.R_append k64 (w0 := w) w.heap.size rfl (.tmp 71) (.tmp 75) 22 64 (.agg #[(.int .i64 0), (.int .i64 0)]) 16 rfl Try.underlying22 info64 rfl (by decide) (by omega) u7 x7_2 (⟨x8_1, x9_2⟩ : S64) [.int .i64 x8_1, .int .i64 x9_2] (fun _ => True) (fun _ => False) rfl rfl ?aP (fun _ hk => hk.elim) ?aF ?aO ?aB ?aS ?aL ?_; (case aP => exact k64_mkM _ _ _ (⟨x8_1, x9_2⟩ : S64)); (case aB => exact (by repeat (first | (with_reducible first | exact HB.out | apply below_alloc | apply pw_below_drewN | apply below_drew1) | exact HB.out))); (case aF => exact (fun _ _ => trivial)); (case aO => exact (by (with_reducible repeat (first | apply Kd.R_alloc | apply Kd.R_drewN | apply Kd.R_drew)); exact HO_7.out)); (case aS => exact (below_size (by repeat (first | (with_reducible first | exact HB.out | apply below_alloc | apply pw_below_drewN | apply below_drew1) | exact HB.out)))); (case aL => have := LMc10.out; omega); intro v111 w11 ho hb hg hat; rw [← Ny110.out] at ho; have n0_ := Aside0.mk (hb); have n1_ := Aside0.mk (ho); clear HB; clear HO_7; have HB := n0_; have HO112 := n1_; clear n0_ n1_; clear ho hb hg hat))
            go_roundg k2
            case measure => have := HK1.out; have := HK2.out; omega
            case rel => exact ⟨(y110), (wrap64 (x9_2 + 1)), (by first | rfl | (simp; done) | (simp [*]; done)), H', ⟨by have := HK1.out; have := HK2.out; omega⟩, ⟨by (with_reducible repeat (first | apply Kd.R_alloc | apply Kd.R_drewN | apply Kd.R_drew)); exact HO112.out⟩, ⟨by repeat (first | (with_reducible first | exact HB.out | apply below_alloc | apply pw_below_drewN | apply below_drew1) | exact HB.out)⟩⟩
           ·rw [if_neg c10] at H
            exact absurd H (by simp)
          ·rw [if_neg c9] at H
           have c9b0 : (x9_2 == (wrap64 (x8_1 + 1))) = false := beq_eq_false_iff_ne.mpr c9
           have c9b1 : (x9_2 != (wrap64 (x8_1 + 1))) = true := bne_iff_ne.mpr c9
           by_cases c12 : a1 = 1
           ·rw [if_pos c12] at H
            have c12b0 : (a1 == 1) = true := beq_iff_eq.mpr c12
            have c12b1 : (a1 != 1) = false := bne_eq_false_iff_eq.mpr c12
            clear c12
            by_cases c13 : x9_2 = (wrap64 (a0 - 1))
            ·rw [if_pos c13] at H
             have c13b0 : (x9_2 == (wrap64 (a0 - 1))) = true := beq_iff_eq.mpr c13
             have c13b1 : (x9_2 != (wrap64 (a0 - 1))) = false := bne_eq_false_iff_eq.mpr c13
             clear c13
             by_cases c14 : x7_2.length < 8796093022208
             ·rw [if_pos c14] at H
              have LMc14 := Aside0.mk c14
              clear c14
              obtain ⟨y113, hy113⟩ : ∃ y_ : List (S64), y_ = (x7_2 ++ [(⟨x8_1, x9_2⟩ : S64)]) := ⟨_, rfl⟩
              replace H : (spec_neWhole.l1 k2 a0 a1 a2 y113 x8_1 (wrap64 (x9_2 + 1))) = some r := by first | (rw [hy113]; with_reducible exact H) | (have H2_ := (Option.bind_some _ _).symm.trans H; rw [hy113]; with_reducible exact H2_) | (have H2_ := (Option.bind_some _ _).symm.trans H; with_reducible exact H2_) | with_reducible exact H | (rw [hy113]; exact H) | exact H
              have Ny113 := Aside0.mk hy113
              clear hy113
              have H' := Aside0.mk H
              clear H
              go_wp2_with (first | ((with_reducible refine gate_builtin (b := .append) (xs := #[.tmp 71, .tmp 75]) rfl ?_); at_builtin; refine Kd.R_append k64 (w0 := w) w.heap.size rfl (.tmp 71) (.tmp 75) 22 64 (.agg #[(.int .i64 0), (.int .i64 0)]) 16 rfl Try.underlying22 info64 rfl (by decide) (by omega) u7 x7_2 (⟨x8_1, x9_2⟩ : S64) [.int .i64 x8_1, .int .i64 x9_2] (fun _ => True) (fun _ => False) rfl rfl ?aP (fun _ hk => hk.elim) ?aF ?aO ?aB ?aS ?aL ?_; (case aP => exact k64_mkM _ _ _ (⟨x8_1, x9_2⟩ : S64)); (case aB => exact (by repeat (first | (with_reducible first | exact HB.out | apply below_alloc | apply pw_below_drewN | apply below_drew1) | exact HB.out))); (case aF => exact (fun _ _ => trivial)); (case aO => exact (by (with_reducible repeat (first | apply Kd.R_alloc | apply Kd.R_drewN | apply Kd.R_drew)); exact HO_7.out)); (case aS => exact (below_size (by repeat (first | (with_reducible first | exact HB.out | apply below_alloc | apply pw_below_drewN | apply below_drew1) | exact HB.out)))); (case aL => have := LMc14.out; omega); intro v114 w15 ho hb hg hat; rw [← Ny113.out] at ho; have n0_ := Aside0.mk (hb); have n1_ := Aside0.mk (ho); clear HB; clear HO_7; have HB := n0_; have HO115 := n1_; clear n0_ n1_; clear ho hb hg hat))
              go_roundg k2
              case measure => have := HK1.out; have := HK2.out; omega
              case rel => exact ⟨(y113), (wrap64 (x9_2 + 1)), (by first | rfl | (simp; done) | (simp [*]; done)), H', ⟨by have := HK1.out; have := HK2.out; omega⟩, ⟨by (with_reducible repeat (first | apply Kd.R_alloc | apply Kd.R_drewN | apply Kd.R_drew)); exact HO115.out⟩, ⟨by repeat (first | (with_reducible first | exact HB.out | apply below_alloc | apply pw_below_drewN | apply below_drew1) | exact HB.out)⟩⟩
             ·rw [if_neg c14] at H
              exact absurd H (by simp)
            ·rw [if_neg c13] at H
             have c13b0 : (x9_2 == (wrap64 (a0 - 1))) = false := beq_eq_false_iff_ne.mpr c13
             have c13b1 : (x9_2 != (wrap64 (a0 - 1))) = true := bne_iff_ne.mpr c13
             by_cases c16 : a1 = 2
             ·rw [if_pos c16] at H
              have c16b0 : (a1 == 2) = true := beq_iff_eq.mpr c16
              have c16b1 : (a1 != 2) = false := bne_eq_false_iff_eq.mpr c16
              clear c16
              by_cases c17 : x7_2.length < 8796093022208
              ·rw [if_pos c17] at H
               have LMc17 := Aside0.mk c17
               clear c17
               obtain ⟨y116, hy116⟩ : ∃ y_ : List (S64), y_ = (x7_2 ++ [(⟨x8_1, x9_2⟩ : S64)]) := ⟨_, rfl⟩
               replace H : (spec_neWhole.l1 k2 a0 a1 a2 y116 x8_1 (wrap64 (x9_2 + 1))) = some r := by first | (rw [hy116]; with_reducible exact H) | (have H2_ := (Option.bind_some _ _).symm.trans H; rw [hy116]; with_reducible exact H2_) | (have H2_ := (Option.bind_some _ _).symm.trans H; with_reducible exact H2_) | with_reducible exact H | (rw [hy116]; exact H) | exact H
               have Ny116 := Aside0.mk hy116
               clear hy116
               have H' := Aside0.mk H
               clear H
               go_wp2_with (first | ((with_reducible refine gate_builtin (b := .append) (xs := #[.tmp 71, .tmp 75]) rfl ?_); at_builtin; refine Kd.R_append k64 (w0 := w) w.heap.size rfl (.tmp 71) (.tmp 75) 22 64 (.agg #[(.int .i64 0), (.int .i64 0)]) 16 rfl Try.underlying22 info64 rfl (by decide) (by omega) u7 x7_2 (⟨x8_1, x9_2⟩ : S64) [.int .i64 x8_1, .int .i64 x9_2] (fun _ => True) (fun _ => False) rfl rfl ?aP (fun _ hk => hk.elim) ?aF ?aO ?aB ?aS ?aL ?_; (case aP => exact k64_mkM _ _ _ (⟨x8_1, x9_2⟩ : S64)); (case aB => exact (by repeat (first | (with_reducible first | exact HB.out | apply below_alloc | apply pw_below_drewN | apply below_drew1) | exact HB.out))); (case aF => exact (fun _ _ => trivial)); (case aO => exact (by (with_reducible repeat (first | apply Kd.R_alloc | apply Kd.R_drewN | apply Kd.R_drew)); exact HO_7.out)); (case aS => exact (below_size (by repeat (first | (with_reducible first | exact HB.out | apply below_alloc | apply pw_below_drewN | apply below_drew1) | exact HB.out)))); (case aL => have := LMc17.out; omega); intro v117 w18 ho hb hg hat; rw [← Ny116.out] at ho; have n0_ := Aside0.mk (hb); have n1_ := Aside0.mk (ho); clear HB; clear HO_7; have HB := n0_; have HO118 := n1_; clear n0_ n1_; clear ho hb hg hat))
               go_roundg k2
               case measure => have := HK1.out; have := HK2.out; omega
               case rel => exact ⟨(y116), (wrap64 (x9_2 + 1)), (by first | rfl | (simp; done) | (simp [*]; done)), H', ⟨by have := HK1.out; have := HK2.out; omega⟩, ⟨by (with_reducible repeat (first | apply Kd.R_alloc | apply Kd.R_drewN | apply Kd.R_drew)); exact HO118.out⟩, ⟨by repeat (first | (with_reducible first | exact HB.out | apply below_alloc | apply pw_below_drewN | apply below_drew1) | exact HB.out)⟩⟩
              ·rw [if_neg c17] at H
               exact absurd H (by simp)
             ·rw [if_neg c16] at H
              have c16b0 : (a1 == 2) = false := beq_eq_false_iff_ne.mpr c16
              have c16b1 : (a1 != 2) = true := bne_iff_ne.mpr c16
              by_cases c19 : a1 = 3
              ·rw [if_pos c19] at H
               have c19b0 : (a1 == 3) = true := beq_iff_eq.mpr c19
               have c19b1 : (a1 != 3) = false := bne_eq_false_iff_eq.mpr c19
               clear c19
               by_cases c20 : x7_2.length < 8796093022208
               ·rw [if_pos c20] at H
                have LMc20 := Aside0.mk c20
                clear c20
                obtain ⟨y119, hy119⟩ : ∃ y_ : List (S64), y_ = (x7_2 ++ [(⟨x8_1, x9_2⟩ : S64)]) := ⟨_, rfl⟩
                replace H : (spec_neWhole.l1 k2 a0 a1 a2 y119 x8_1 (wrap64 (x9_2 + 1))) = some r := by first | (rw [hy119]; with_reducible exact H) | (have H2_ := (Option.bind_some _ _).symm.trans H; rw [hy119]; with_reducible exact H2_) | (have H2_ := (Option.bind_some _ _).symm.trans H; with_reducible exact H2_) | with_reducible exact H | (rw [hy119]; exact H) | exact H
                have Ny119 := Aside0.mk hy119
                clear hy119
                have H' := Aside0.mk H
                clear H
                go_wp2_with (first | ((with_reducible refine gate_builtin (b := .append) (xs := #[.tmp 71, .tmp 75]) rfl ?_); at_builtin; refine Kd.R_append k64 (w0 := w) w.heap.size rfl (.tmp 71) (.tmp 75) 22 64 (.agg #[(.int .i64 0), (.int .i64 0)]) 16 rfl Try.underlying22 info64 rfl (by decide) (by omega) u7 x7_2 (⟨x8_1, x9_2⟩ : S64) [.int .i64 x8_1, .int .i64 x9_2] (fun _ => True) (fun _ => False) rfl rfl ?aP (fun _ hk => hk.elim) ?aF ?aO ?aB ?aS ?aL ?_; (case aP => exact k64_mkM _ _ _ (⟨x8_1, x9_2⟩ : S64)); (case aB => exact (by repeat (first | (with_reducible first | exact HB.out | apply below_alloc | apply pw_below_drewN | apply below_drew1) | exact HB.out))); (case aF => exact (fun _ _ => trivial)); (case aO => exact (by (with_reducible repeat (first | apply Kd.R_alloc | apply Kd.R_drewN | apply Kd.R_drew)); exact HO_7.out)); (case aS => exact (below_size (by repeat (first | (with_reducible first | exact HB.out | apply below_alloc | apply pw_below_drewN | apply below_drew1) | exact HB.out)))); (case aL => have := LMc20.out; omega); intro v120 w21 ho hb hg hat; rw [← Ny119.out] at ho; have n0_ := Aside0.mk (hb); have n1_ := Aside0.mk (ho); clear HB; clear HO_7; have HB := n0_; have HO121 := n1_; clear n0_ n1_; clear ho hb hg hat))
                go_roundg k2
                case measure => have := HK1.out; have := HK2.out; omega
                case rel => exact ⟨(y119), (wrap64 (x9_2 + 1)), (by first | rfl | (simp; done) | (simp [*]; done)), H', ⟨by have := HK1.out; have := HK2.out; omega⟩, ⟨by (with_reducible repeat (first | apply Kd.R_alloc | apply Kd.R_drewN | apply Kd.R_drew)); exact HO121.out⟩, ⟨by repeat (first | (with_reducible first | exact HB.out | apply below_alloc | apply pw_below_drewN | apply below_drew1) | exact HB.out)⟩⟩
               ·rw [if_neg c20] at H
                exact absurd H (by simp)
              ·rw [if_neg c19] at H
               have c19b0 : (a1 == 3) = false := beq_eq_false_iff_ne.mpr c19
               have c19b1 : (a1 != 3) = true := bne_iff_ne.mpr c19
               have H' := Aside0.mk H
               clear H
               go_wp2
               go_roundg k2
               case measure => have := HK1.out; have := HK2.out; omega
               case rel => exact ⟨(x7_2), (wrap64 (x9_2 + 1)), (by first | rfl | (simp; done) | (simp [*]; done)), H', ⟨by have := HK1.out; have := HK2.out; omega⟩, ⟨by (with_reducible repeat (first | apply Kd.R_alloc | apply Kd.R_drewN | apply Kd.R_drew)); exact HO_7.out⟩, ⟨by repeat (first | (with_reducible first | exact HB.out | apply below_alloc | apply pw_below_drewN | apply below_drew1) | exact HB.out)⟩⟩
           ·rw [if_neg c12] at H
            have c12b0 : (a1 == 1) = false := beq_eq_false_iff_ne.mpr c12
            have c12b1 : (a1 != 1) = true := bne_iff_ne.mpr c12
            by_cases c22 : a1 = 2
            ·rw [if_pos c22] at H
             have c22b0 : (a1 == 2) = true := beq_iff_eq.mpr c22
             have c22b1 : (a1 != 2) = false := bne_eq_false_iff_eq.mpr c22
             clear c22
             by_cases c23 : x7_2.length < 8796093022208
             ·rw [if_pos c23] at H
              have LMc23 := Aside0.mk c23
              clear c23
              obtain ⟨y122, hy122⟩ : ∃ y_ : List (S64), y_ = (x7_2 ++ [(⟨x8_1, x9_2⟩ : S64)]) := ⟨_, rfl⟩
              replace H : (spec_neWhole.l1 k2 a0 a1 a2 y122 x8_1 (wrap64 (x9_2 + 1))) = some r := by first | (rw [hy122]; with_reducible exact H) | (have H2_ := (Option.bind_some _ _).symm.trans H; rw [hy122]; with_reducible exact H2_) | (have H2_ := (Option.bind_some _ _).symm.trans H; with_reducible exact H2_) | with_reducible exact H | (rw [hy122]; exact H) | exact H
              have Ny122 := Aside0.mk hy122
              clear hy122
              have H' := Aside0.mk H
              clear H
              go_wp2_with (first | ((with_reducible refine gate_builtin (b := .append) (xs := #[.tmp 71, .tmp 75]) rfl ?_); at_builtin; refine Kd.R_append k64 (w0 := w) w.heap.size rfl (.tmp 71) (.tmp 75) 22 64 (.agg #[(.int .i64 0), (.int .i64 0)]) 16 rfl Try.underlying22 info64 rfl (by decide) (by omega) u7 x7_2 (⟨x8_1, x9_2⟩ : S64) [.int .i64 x8_1, .int .i64 x9_2] (fun _ => True) (fun _ => False) rfl rfl ?aP (fun _ hk => hk.elim) ?aF ?aO ?aB ?aS ?aL ?_; (case aP => exact k64_mkM _ _ _ (⟨x8_1, x9_2⟩ : S64)); (case aB => exact (by repeat (first | (with_reducible first | exact HB.out | apply below_alloc | apply pw_below_drewN | apply below_drew1) | exact HB.out))); (case aF => exact (fun _ _ => trivial)); (case aO => exact (by (with_reducible repeat (first | apply Kd.R_alloc | apply Kd.R_drewN | apply Kd.R_drew)); exact HO_7.out)); (case aS => exact (below_size (by repeat (first | (with_reducible first | exact HB.out | apply below_alloc | apply pw_below_drewN | apply below_drew1) | exact HB.out)))); (case aL => have := LMc23.out; omega); intro v123 w24 ho hb hg hat; rw [← Ny122.out] at ho; have n0_ := Aside0.mk (hb); have n1_ := Aside0.mk (ho); clear HB; clear HO_7; have HB := n0_; have HO124 := n1_; clear n0_ n1_; clear ho hb hg hat))
              go_roundg k2
              case measure => have := HK1.out; have := HK2.out; omega
              case rel => exact ⟨(y122), (wrap64 (x9_2 + 1)), (by first | rfl | (simp; done) | (simp [*]; done)), H', ⟨by have := HK1.out; have := HK2.out; omega⟩, ⟨by (with_reducible repeat (first | apply Kd.R_alloc | apply Kd.R_drewN | apply Kd.R_drew)); exact HO124.out⟩, ⟨by repeat (first | (with_reducible first | exact HB.out | apply below_alloc | apply pw_below_drewN | apply below_drew1) | exact HB.out)⟩⟩
             ·rw [if_neg c23] at H
              exact absurd H (by simp)
            ·rw [if_neg c22] at H
             have c22b0 : (a1 == 2) = false := beq_eq_false_iff_ne.mpr c22
             have c22b1 : (a1 != 2) = true := bne_iff_ne.mpr c22
             by_cases c25 : a1 = 3
             ·rw [if_pos c25] at H
              have c25b0 : (a1 == 3) = true := beq_iff_eq.mpr c25
              have c25b1 : (a1 != 3) = false := bne_eq_false_iff_eq.mpr c25
              clear c25
              by_cases c26 : x7_2.length < 8796093022208
              ·rw [if_pos c26] at H
               have LMc26 := Aside0.mk c26
               clear c26
               obtain ⟨y125, hy125⟩ : ∃ y_ : List (S64), y_ = (x7_2 ++ [(⟨x8_1, x9_2⟩ : S64)]) := ⟨_, rfl⟩
               replace H : (spec_neWhole.l1 k2 a0 a1 a2 y125 x8_1 (wrap64 (x9_2 + 1))) = some r := by first | (rw [hy125]; with_reducible exact H) | (have H2_ := (Option.bind_some _ _).symm.trans H; rw [hy125]; with_reducible exact H2_) | (have H2_ := (Option.bind_some _ _).symm.trans H; with_reducible exact H2_) | with_reducible exact H | (rw [hy125]; exact H) | exact H
               have Ny125 := Aside0.mk hy125
               clear hy125
               have H' := Aside0.mk H
               clear H
               go_wp2_with (first | ((with_reducible refine gate_builtin (b := .append) (xs := #[.tmp 71, .tmp 75]) rfl ?_); at_builtin; refine Kd.R_append k64 (w0 := w) w.heap.size rfl (.tmp 71) (.tmp 75) 22 64 (.agg #[(.int .i64 0), (.int .i64 0)]) 16 rfl Try.underlying22 info64 rfl (by decide) (by omega) u7 x7_2 (⟨x8_1, x9_2⟩ : S64) [.int .i64 x8_1, .int .i64 x9_2] (fun _ => True) (fun _ => False) rfl rfl ?aP (fun _ hk => hk.elim) ?aF ?aO ?aB ?aS ?aL ?_; (case aP => exact k64_mkM _ _ _ (⟨x8_1, x9_2⟩ : S64)); (case aB => exact (by repeat (first | (with_reducible first | exact HB.out | apply below_alloc | apply pw_below_drewN | apply below_drew1) | exact HB.out))); (case aF => exact (fun _ _ => trivial)); (case aO => exact (by (with_reducible repeat (first | apply Kd.R_alloc | apply Kd.R_drewN | apply Kd.R_drew)); exact HO_7.out)); (case aS => exact (below_size (by repeat (first | (with_reducible first | exact HB.out | apply below_alloc | apply pw_below_drewN | apply below_drew1) | exact HB.out)))); (case aL => have := LMc26.out; omega); intro v126 w27 ho hb hg hat; rw [← Ny125.out] at ho; have n0_ := Aside0.mk (hb); have n1_ := Aside0.mk (ho); clear HB; clear HO_7; have HB := n0_; have HO127 := n1_; clear n0_ n1_; clear ho hb hg hat))
               go_roundg k2
               case measure => have := HK1.out; have := HK2.out; omega
               case rel => exact ⟨(y125), (wrap64 (x9_2 + 1)), (by first | rfl | (simp; done) | (simp [*]; done)), H', ⟨by have := HK1.out; have := HK2.out; omega⟩, ⟨by (with_reducible repeat (first | apply Kd.R_alloc | apply Kd.R_drewN | apply Kd.R_drew)); exact HO127.out⟩, ⟨by repeat (first | (with_reducible first | exact HB.out | apply below_alloc | apply pw_below_drewN | apply below_drew1) | exact HB.out)⟩⟩
              ·rw [if_neg c26] at H
               exact absurd H (by simp)
             ·rw [if_neg c25] at H
              have c25b0 : (a1 == 3) = false := beq_eq_false_iff_ne.mpr c25
              have c25b1 : (a1 != 3) = true := bne_iff_ne.mpr c25
              have H' := Aside0.mk H
              clear H
              go_wp2
              go_roundg k2
              case measure => have := HK1.out; have := HK2.out; omega
              case rel => exact ⟨(x7_2), (wrap64 (x9_2 + 1)), (by first | rfl | (simp; done) | (simp [*]; done)), H', ⟨by have := HK1.out; have := HK2.out; omega⟩, ⟨by (with_reducible repeat (first | apply Kd.R_alloc | apply Kd.R_drewN | apply Kd.R_drew)); exact HO_7.out⟩, ⟨by repeat (first | (with_reducible first | exact HB.out | apply below_alloc | apply pw_below_drewN | apply below_drew1) | exact HB.out)⟩⟩
         ·rw [if_neg c8] at H
          have c8b0 : (a1 == 0) = false := beq_eq_false_iff_ne.mpr c8
          have c8b1 : (a1 != 0) = true := bne_iff_ne.mpr c8
          by_cases c28 : a1 = 1
          ·rw [if_pos c28] at H
           have c28b0 : (a1 == 1) = true := beq_iff_eq.mpr c28
           have c28b1 : (a1 != 1) = false := bne_eq_false_iff_eq.mpr c28
           clear c28
           by_cases c29 : x9_2 = (wrap64 (x8_1 + 1))
           ·rw [if_pos c29] at H
            have c29b0 : (x9_2 == (wrap64 (x8_1 + 1))) = true := beq_iff_eq.mpr c29
            have c29b1 : (x9_2 != (wrap64 (x8_1 + 1))) = false := bne_eq_false_iff_eq.mpr c29
            clear c29
            by_cases c30 : x7_2.length < 8796093022208
            ·rw [if_pos c30] at H
             have LMc30 := Aside0.mk c30
             clear c30
             obtain ⟨y128, hy128⟩ : ∃ y_ : List (S64), y_ = (x7_2 ++ [(⟨x8_1, x9_2⟩ : S64)]) := ⟨_, rfl⟩
             replace H : (spec_neWhole.l1 k2 a0 a1 a2 y128 x8_1 (wrap64 (x9_2 + 1))) = some r := by first | (rw [hy128]; with_reducible exact H) | (have H2_ := (Option.bind_some _ _).symm.trans H; rw [hy128]; with_reducible exact H2_) | (have H2_ := (Option.bind_some _ _).symm.trans H; with_reducible exact H2_) | with_reducible exact H | (rw [hy128]; exact H) | exact H
             have Ny128 := Aside0.mk hy128
             clear hy128
             have H' := Aside0.mk H
             clear H
             go_wp2_with (first | ((with_reducible refine gate_builtin (b := .append) (xs := #[.tmp 71, .tmp 75]) rfl ?_); at_builtin; refine Kd.R_append k64 (w0 := w) w.heap.size rfl (.tmp 71) (.tmp 75) 22 64 (.agg #[(.int .i64 0), (.int .i64 0)]) 16 rfl Try.underlying22 info64 rfl (by decide) (by omega) u7 x7_2 (⟨x8_1, x9_2⟩ : S64) [.int .i64 x8_1, .int .i64 x9_2] (fun _ => True) (fun _ => False) rfl rfl ?aP (fun _ hk => hk.elim) ?aF ?aO ?aB ?aS ?aL ?_; (case aP => exact k64_mkM _ _ _ (⟨x8_1, x9_2⟩ : S64)); (case aB => exact (by repeat (first | (with_reducible first | exact HB.out | apply below_alloc | apply pw_below_drewN | apply below_drew1) | exact HB.out))); (case aF => exact (fun _ _ => trivial)); (case aO => exact (by (with_reducible repeat (first | apply Kd.R_alloc | apply Kd.R_drewN | apply Kd.R_drew)); exact HO_7.out)); (case aS => exact (below_size (by repeat (first | (with_reducible first | exact HB.out | apply below_alloc | apply pw_below_drewN | apply below_drew1) | exact HB.out)))); (case aL => have := LMc30.out; omega); intro v129 w31 ho hb hg hat; rw [← Ny128.out] at ho; have n0_ := Aside0.mk (hb); have n1_ := Aside0.mk (ho); clear HB; clear HO_7; have HB := n0_; have HO130 := n1_; clear n0_ n1_; clear ho hb hg hat))
             go_roundg k2
             case measure => have := HK1.out; have := HK2.out; omega
             case rel => exact ⟨(y128), (wrap64 (x9_2 + 1)), (by first | rfl | (simp; done) | (simp [*]; done)), H', ⟨by have := HK1.out; have := HK2.out; omega⟩, ⟨by (with_reducible repeat (first | apply Kd.R_alloc | apply Kd.R_drewN | apply Kd.R_drew)); exact HO130.out⟩, ⟨by repeat (first | (with_reducible first | exact HB.out | apply below_alloc | apply pw_below_drewN | apply below_drew1) | exact HB.out)⟩⟩
            ·rw [if_neg c30] at H
             exact absurd H (by simp)
           ·rw [if_neg c29] at H
            have c29b0 : (x9_2 == (wrap64 (x8_1 + 1))) = false := beq_eq_false_iff_ne.mpr c29
            have c29b1 : (x9_2 != (wrap64 (x8_1 + 1))) = true := bne_iff_ne.mpr c29
            by_cases c32 : x9_2 = (wrap64 (a0 - 1))
            ·rw [if_pos c32] at H
             have c32b0 : (x9_2 == (wrap64 (a0 - 1))) = true := beq_iff_eq.mpr c32
             have c32b1 : (x9_2 != (wrap64 (a0 - 1))) = false := bne_eq_false_iff_eq.mpr c32
             clear c32
             by_cases c33 : x7_2.length < 8796093022208
             ·rw [if_pos c33] at H
              have LMc33 := Aside0.mk c33
              clear c33
              obtain ⟨y131, hy131⟩ : ∃ y_ : List (S64), y_ = (x7_2 ++ [(⟨x8_1, x9_2⟩ : S64)]) := ⟨_, rfl⟩
              replace H : (spec_neWhole.l1 k2 a0 a1 a2 y131 x8_1 (wrap64 (x9_2 + 1))) = some r := by first | (rw [hy131]; with_reducible exact H) | (have H2_ := (Option.bind_some _ _).symm.trans H; rw [hy131]; with_reducible exact H2_) | (have H2_ := (Option.bind_some _ _).symm.trans H; with_reducible exact H2_) | with_reducible exact H | (rw [hy131]; exact H) | exact H
              have Ny131 := Aside0.mk hy131
              clear hy131
              have H' := Aside0.mk H
              clear H
              go_wp2_with (first | ((with_reducible refine gate_builtin (b := .append) (xs := #[.tmp 71, .tmp 75]) rfl ?_); at_builtin; refine Kd.R_append k64 (w0 := w) w.heap.size rfl (.tmp 71) (.tmp 75) 22 64 (.agg #[(.int .i64 0), (.int .i64 0)]) 16 rfl Try.underlying22 info64 rfl (by decide) (by omega) u7 x7_2 (⟨x8_1, x9_2⟩ : S64) [.int .i64 x8_1, .int .i64 x9_2] (fun _ => True) (fun _ => False) rfl rfl ?aP (fun _ hk => hk.elim) ?aF ?aO ?aB ?aS ?aL ?_; (case aP => exact k64_mkM _ _ _ (⟨x8_1, x9_2⟩ : S64)); (case aB => exact (by repeat (first | (with_reducible first | exact HB.out | apply below_alloc | apply pw_below_drewN | apply below_drew1) | exact HB.out))); (case aF => exact (fun _ _ => trivial)); (case aO => exact (by (with_reducible repeat (first | apply Kd.R_alloc | apply Kd.R_drewN | apply Kd.R_drew)); exact HO_7.out)); (case aS => exact (below_size (by repeat (first | (with_reducible first | exact HB.out | apply below_alloc | apply pw_below_drewN | apply below_drew1) | exact HB.out)))); (case aL => have := LMc33.out; omega); intro v132 w34 ho hb hg hat; rw [← Ny131.out] at ho; have n0_ := Aside0.mk (hb); have n1_ := Aside0.mk (ho); clear HB; clear HO_7; have HB := n0_; have HO133 := n1_; clear n0_ n1_; clear ho hb hg hat))
              go_roundg k2
              case measure => have := HK1.out; have := HK2.out; omega
              case rel => exact ⟨(y131), (wrap64 (x9_2 + 1)), (by first | rfl | (simp; done) | (simp [*]; done)), H', ⟨by have := HK1.out; have := HK2.out; omega⟩, ⟨by (with_reducible repeat (first | apply Kd.R_alloc | apply Kd.R_drewN | apply Kd.R_drew)); exact HO133.out⟩, ⟨by repeat (first | (with_reducible first | exact HB.out | apply below_alloc | apply pw_below_drewN | apply below_drew1) | exact HB.out)⟩⟩
             ·rw [if_neg c33] at H
              exact absurd H (by simp)
            ·rw [if_neg c32] at H
             have c32b0 : (x9_2 == (wrap64 (a0 - 1))) = false := beq_eq_false_iff_ne.mpr c32
             have c32b1 : (x9_2 != (wrap64 (a0 - 1))) = true := bne_iff_ne.mpr c32
             by_cases c35 : a1 = 2
             ·rw [if_pos c35] at H
              have c35b0 : (a1 == 2) = true := beq_iff_eq.mpr c35
              have c35b1 : (a1 != 2) = false := bne_eq_false_iff_eq.mpr c35
              clear c35
              by_cases c36 : x7_2.length < 8796093022208
              ·rw [if_pos c36] at H
               have LMc36 := Aside0.mk c36
               clear c36
               obtain ⟨y134, hy134⟩ : ∃ y_ : List (S64), y_ = (x7_2 ++ [(⟨x8_1, x9_2⟩ : S64)]) := ⟨_, rfl⟩
               replace H : (spec_neWhole.l1 k2 a0 a1 a2 y134 x8_1 (wrap64 (x9_2 + 1))) = some r := by first | (rw [hy134]; with_reducible exact H) | (have H2_ := (Option.bind_some _ _).symm.trans H; rw [hy134]; with_reducible exact H2_) | (have H2_ := (Option.bind_some _ _).symm.trans H; with_reducible exact H2_) | with_reducible exact H | (rw [hy134]; exact H) | exact H
               have Ny134 := Aside0.mk hy134
               clear hy134
               have H' := Aside0.mk H
               clear H
               go_wp2_with (first | ((with_reducible refine gate_builtin (b := .append) (xs := #[.tmp 71, .tmp 75]) rfl ?_); at_builtin; refine Kd.R_append k64 (w0 := w) w.heap.size rfl (.tmp 71) (.tmp 75) 22 64 (.agg #[(.int .i64 0), (.int .i64 0)]) 16 rfl Try.underlying22 info64 rfl (by decide) (by omega) u7 x7_2 (⟨x8_1, x9_2⟩ : S64) [.int .i64 x8_1, .int .i64 x9_2] (fun _ => True) (fun _ => False) rfl rfl ?aP (fun _ hk => hk.elim) ?aF ?aO ?aB ?aS ?aL ?_; (case aP => exact k64_mkM _ _ _ (⟨x8_1, x9_2⟩ : S64)); (case aB => exact (by repeat (first | (with_reducible first | exact HB.out | apply below_alloc | apply pw_below_drewN | apply below_drew1) | exact HB.out))); (case aF => exact (fun _ _ => trivial)); (case aO => exact (by (with_reducible repeat (first | apply Kd.R_alloc | apply Kd.R_drewN | apply Kd.R_drew)); exact HO_7.out)); (case aS => exact (below_size (by repeat (first | (with_reducible first | exact HB.out | apply below_alloc | apply pw_below_drewN | apply below_drew1) | exact HB.out)))); (case aL => have := LMc36.out; omega); intro v135 w37 ho hb hg hat; rw [← Ny134.out] at ho; have n0_ := Aside0.mk (hb); have n1_ := Aside0.mk (ho); clear HB; clear HO_7; have HB := n0_; have HO136 := n1_; clear n0_ n1_; clear ho hb hg hat))
               go_roundg k2
               case measure => have := HK1.out; have := HK2.out; omega
               case rel => exact ⟨(y134), (wrap64 (x9_2 + 1)), (by first | rfl | (simp; done) | (simp [*]; done)), H', ⟨by have := HK1.out; have := HK2.out; omega⟩, ⟨by (with_reducible repeat (first | apply Kd.R_alloc | apply Kd.R_drewN | apply Kd.R_drew)); exact HO136.out⟩, ⟨by repeat (first | (with_reducible first | exact HB.out | apply below_alloc | apply pw_below_drewN | apply below_drew1) | exact HB.out)⟩⟩
              ·rw [if_neg c36] at H
               exact absurd H (by simp)
             ·rw [if_neg c35] at H
              have c35b0 : (a1 == 2) = false := beq_eq_false_iff_ne.mpr c35
              have c35b1 : (a1 != 2) = true := bne_iff_ne.mpr c35
              by_cases c38 : a1 = 3
              ·rw [if_pos c38] at H
               have c38b0 : (a1 == 3) = true := beq_iff_eq.mpr c38
               have c38b1 : (a1 != 3) = false := bne_eq_false_iff_eq.mpr c38
               clear c38
               by_cases c39 : x7_2.length < 8796093022208
               ·rw [if_pos c39] at H
                have LMc39 := Aside0.mk c39
                clear c39
                obtain ⟨y137, hy137⟩ : ∃ y_ : List (S64), y_ = (x7_2 ++ [(⟨x8_1, x9_2⟩ : S64)]) := ⟨_, rfl⟩
                replace H : (spec_neWhole.l1 k2 a0 a1 a2 y137 x8_1 (wrap64 (x9_2 + 1))) = some r := by first | (rw [hy137]; with_reducible exact H) | (have H2_ := (Option.bind_some _ _).symm.trans H; rw [hy137]; with_reducible exact H2_) | (have H2_ := (Option.bind_some _ _).symm.trans H; with_reducible exact H2_) | with_reducible exact H | (rw [hy137]; exact H) | exact H
                have Ny137 := Aside0.mk hy137
                clear hy137
                have H' := Aside0.mk H
                clear H
                go_wp2_with (first | ((with_reducible refine gate_builtin (b := .append) (xs := #[.tmp 71, .tmp 75]) rfl ?_); at_builtin; refine Kd.R_append k64 (w0 := w) w.heap.size rfl (.tmp 71) (.tmp 75) 22 64 (.agg #[(.int .i64 0), (.int .i64 0)]) 16 rfl Try.underlying22 info64 rfl (by decide) (by omega) u7 x7_2 (⟨x8_1, x9_2⟩ : S64) [.int .i64 x8_1, .int .i64 x9_2] (fun _ => True) (fun _ => False) rfl rfl ?aP (fun _ hk => hk.elim) ?aF ?aO ?aB ?aS ?aL ?_; (case aP => exact k64_mkM _ _ _ (⟨x8_1, x9_2⟩ : S64)); (case aB => exact (by repeat (first | (with_reducible first | exact HB.out | apply below_alloc | apply pw_below_drewN | apply below_drew1) | exact HB.out))); (case aF => exact (fun _ _ => trivial)); (case aO => exact (by (with_reducible repeat (first | apply Kd.R_alloc | apply Kd.R_drewN | apply Kd.R_drew)); exact HO_7.out)); (case aS => exact (below_size (by repeat (first | (with_reducible first | exact HB.out | apply below_alloc | apply pw_below_drewN | apply below_drew1) | exact HB.out)))); (case aL => have := LMc39.out; omega); intro v138 w40 ho hb hg hat; rw [← Ny137.out] at ho; have n0_ := Aside0.mk (hb); have n1_ := Aside0.mk (ho); clear HB; clear HO_7; have HB := n0_; have HO139 := n1_; clear n0_ n1_; clear ho hb hg hat))
                go_roundg k2
                case measure => have := HK1.out; have := HK2.out; omega
                case rel => exact ⟨(y137), (wrap64 (x9_2 + 1)), (by first | rfl | (simp; done) | (simp [*]; done)), H', ⟨by have := HK1.out; have := HK2.out; omega⟩, ⟨by (with_reducible repeat (first | apply Kd.R_alloc | apply Kd.R_drewN | apply Kd.R_drew)); exact HO139.out⟩, ⟨by repeat (first | (with_reducible first | exact HB.out | apply below_alloc | apply pw_below_drewN | apply below_drew1) | exact HB.out)⟩⟩
               ·rw [if_neg c39] at H
                exact absurd H (by simp)
              ·rw [if_neg c38] at H
               have c38b0 : (a1 == 3) = false := beq_eq_false_iff_ne.mpr c38
               have c38b1 : (a1 != 3) = true := bne_iff_ne.mpr c38
               have H' := Aside0.mk H
               clear H
               go_wp2
               go_roundg k2
               case measure => have := HK1.out; have := HK2.out; omega
               case rel => exact ⟨(x7_2), (wrap64 (x9_2 + 1)), (by first | rfl | (simp; done) | (simp [*]; done)), H', ⟨by have := HK1.out; have := HK2.out; omega⟩, ⟨by (with_reducible repeat (first | apply Kd.R_alloc | apply Kd.R_drewN | apply Kd.R_drew)); exact HO_7.out⟩, ⟨by repeat (first | (with_reducible first | exact HB.out | apply below_alloc | apply pw_below_drewN | apply below_drew1) | exact HB.out)⟩⟩
          ·rw [if_neg c28] at H
           have c28b0 : (a1 == 1) = false := beq_eq_false_iff_ne.mpr c28
           have c28b1 : (a1 != 1) = true := bne_iff_ne.mpr c28
           by_cases c41 : a1 = 2
           ·rw [if_pos c41] at H
            have c41b0 : (a1 == 2) = true := beq_iff_eq.mpr c41
            have c41b1 : (a1 != 2) = false := bne_eq_false_iff_eq.mpr c41
            clear c41
            by_cases c42 : x7_2.length < 8796093022208
            ·rw [if_pos c42] at H
             have LMc42 := Aside0.mk c42
             clear c42
             obtain ⟨y140, hy140⟩ : ∃ y_ : List (S64), y_ = (x7_2 ++ [(⟨x8_1, x9_2⟩ : S64)]) := ⟨_, rfl⟩
             replace H : (spec_neWhole.l1 k2 a0 a1 a2 y140 x8_1 (wrap64 (x9_2 + 1))) = some r := by first | (rw [hy140]; with_reducible exact H) | (have H2_ := (Option.bind_some _ _).symm.trans H; rw [hy140]; with_reducible exact H2_) | (have H2_ := (Option.bind_some _ _).symm.trans H; with_reducible exact H2_) | with_reducible exact H | (rw [hy140]; exact H) | exact H
             have Ny140 := Aside0.mk hy140
             clear hy140
             have H' := Aside0.mk H
             clear H
             go_wp2_with (first | ((with_reducible refine gate_builtin (b := .append) (xs := #[.tmp 71, .tmp 75]) rfl ?_); at_builtin; refine Kd.R_append k64 (w0 := w) w.heap.size rfl (.tmp 71) (.tmp 75) 22 64 (.agg #[(.int .i64 0), (.int .i64 0)]) 16 rfl Try.underlying22 info64 rfl (by decide) (by omega) u7 x7_2 (⟨x8_1, x9_2⟩ : S64) [.int .i64 x8_1, .int .i64 x9_2] (fun _ => True) (fun _ => False) rfl rfl ?aP (fun _ hk => hk.elim) ?aF ?aO ?aB ?aS ?aL ?_; (case aP => exact k64_mkM _ _ _ (⟨x8_1, x9_2⟩ : S64)); (case aB => exact (by repeat (first | (with_reducible first | exact HB.out | apply below_alloc | apply pw_below_drewN | apply below_drew1) | exact HB.out))); (case aF => exact (fun _ _ => trivial)); (case aO => exact (by (with_reducible repeat (first | apply Kd.R_alloc | apply Kd.R_drewN | apply Kd.R_drew)); exact HO_7.out)); (case aS => exact (below_size (by repeat (first | (with_reducible first | exact HB.out | apply below_alloc | apply pw_below_drewN | apply below_drew1) | exact HB.out)))); (case aL => have := LMc42.out; omega); intro v141 w43 ho hb hg hat; rw [← Ny140.out] at ho; have n0_ := Aside0.mk (hb); have n1_ := Aside0.mk (ho); clear HB; clear HO_7; have HB := n0_; have HO142 := n1_; clear n0_ n1_; clear ho hb hg hat))
             go_roundg k2
             case measure => have := HK1.out; have := HK2.out; omega
             case rel => exact ⟨(y140), (wrap64 (x9_2 + 1)), (by first | rfl | (simp; done) | (simp [*]; done)), H', ⟨by have := HK1.out; have := HK2.out; omega⟩, ⟨by (with_reducible repeat (first | apply Kd.R_alloc | apply Kd.R_drewN | apply Kd.R_drew)); exact HO142.out⟩, ⟨by repeat (first | (with_reducible first | exact HB.out | apply below_alloc | apply pw_below_drewN | apply below_drew1) | exact HB.out)⟩⟩
            ·rw [if_neg c42] at H
             exact absurd H (by simp)
           ·rw [if_neg c41] at H
            have c41b0 : (a1 == 2) = false := beq_eq_false_iff_ne.mpr c41
            have c41b1 : (a1 != 2) = true := bne_iff_ne.mpr c41
            by_cases c44 : a1 = 3
            ·rw [if_pos c44] at H
             have c44b0 : (a1 == 3) = true := beq_iff_eq.mpr c44
             have c44b1 : (a1 != 3) = false := bne_eq_false_iff_eq.mpr c44
             clear c44
             by_cases c45 : x7_2.length < 8796093022208
             ·rw [if_pos c45] at H
              have LMc45 := Aside0.mk c45
              clear c45
              obtain ⟨y143, hy143⟩ : ∃ y_ : List (S64), y_ = (x7_2 ++ [(⟨x8_1, x9_2⟩ : S64)]) := ⟨_, rfl⟩
              replace H : (spec_neWhole.l1 k2 a0 a1 a2 y143 x8_1 (wrap64 (x9_2 + 1))) = some r := by first | (rw [hy143]; with_reducible exact H) | (have H2_ := (Option.bind_some _ _).symm.trans H; rw [hy143]; with_reducible exact H2_) | (have H2_ := (Option.bind_some _ _).symm.trans H; with_reducible exact H2_) | with_reducible exact H | (rw [hy143]; exact H) | exact H
              have Ny143 := Aside0.mk hy143
              clear hy143
              have H' := Aside0.mk H
              clear H
              go_wp2_with (first | ((with_reducible refine gate_builtin (b := .append) (xs := #[.tmp 71, .tmp 75]) rfl ?_); at_builtin; refine Kd.R_append k64 (w0 := w) w.heap.size rfl (.tmp 71) (.tmp 75) 22 64 (.agg #[(.int .i64 0), (.int .i64 0)]) 16 rfl Try.underlying22 info64 rfl (by decide) (by omega) u7 x7_2 (⟨x8_1, x9_2⟩ : S64) [.int .i64 x8_1, .int .i64 x9_2] (fun _ => True) (fun _ => False) rfl rfl ?aP (fun _ hk => hk.elim) ?aF ?aO ?aB ?aS ?aL ?_; (case aP => exact k64_mkM _ _ _ (⟨x8_1, x9_2⟩ : S64)); (case aB => exact (by repeat (first | (with_reducible first | exact HB.out | apply below_alloc | apply pw_below_drewN | apply below_drew1) | exact HB.out))); (case aF => exact (fun _ _ => trivial)); (case aO => exact (by (with_reducible repeat (first | apply Kd.R_alloc | apply Kd.R_drewN | apply Kd.R_drew)); exact HO_7.out)); (case aS => exact (below_size (by repeat (first | (with_reducible first | exact HB.out | apply below_alloc | apply pw_below_drewN | apply below_drew1) | exact HB.out)))); (case aL => have := LMc45.out; omega); intro v144 w46 ho hb hg hat; rw [← Ny143.out] at ho; have n0_ := Aside0.mk (hb); have n1_ := Aside0.mk (ho); clear HB; clear HO_7; have HB := n0_; have HO145 := n1_; clear n0_ n1_; clear ho hb hg hat))
              go_roundg k2
              case measure => have := HK1.out; have := HK2.out; omega
              case rel => exact ⟨(y143), (wrap64 (x9_2 + 1)), (by first | rfl | (simp; done) | (simp [*]; done)), H', ⟨by have := HK1.out; have := HK2.out; omega⟩, ⟨by (with_reducible repeat (first | apply Kd.R_alloc | apply Kd.R_drewN | apply Kd.R_drew)); exact HO145.out⟩, ⟨by repeat (first | (with_reducible first | exact HB.out | apply below_alloc | apply pw_below_drewN | apply below_drew1) | exact HB.out)⟩⟩
             ·rw [if_neg c45] at H
              exact absurd H (by simp)
            ·rw [if_neg c44] at H
             have c44b0 : (a1 == 3) = false := beq_eq_false_iff_ne.mpr c44
             have c44b1 : (a1 != 3) = true := bne_iff_ne.mpr c44
             have H' := Aside0.mk H
             clear H
             go_wp2
             go_roundg k2
             case measure => have := HK1.out; have := HK2.out; omega
             case rel => exact ⟨(x7_2), (wrap64 (x9_2 + 1)), (by first | rfl | (simp; done) | (simp [*]; done)), H', ⟨by have := HK1.out; have := HK2.out; omega⟩, ⟨by (with_reducible repeat (first | apply Kd.R_alloc | apply Kd.R_drewN | apply Kd.R_drew)); exact HO_7.out⟩, ⟨by repeat (first | (with_reducible first | exact HB.out | apply below_alloc | apply pw_below_drewN | apply below_drew1) | exact HB.out)⟩⟩
        ·rw [if_neg c7] at H
         have c7b0 : (x8_1 == a2) = false := beq_eq_false_iff_ne.mpr c7
         have c7b1 : (x8_1 != a2) = true := bne_iff_ne.mpr c7
         by_cases c47 : a1 = 0
         ·rw [if_pos c47] at H
          have c47b0 : (a1 == 0) = true := beq_iff_eq.mpr c47
          have c47b1 : (a1 != 0) = false := bne_eq_false_iff_eq.mpr c47
          clear c47
          by_cases c48 : x9_2 = (wrap64 (x8_1 + 1))
          ·rw [if_pos c48] at H
           have c48b0 : (x9_2 == (wrap64 (x8_1 + 1))) = true := beq_iff_eq.mpr c48
           have c48b1 : (x9_2 != (wrap64 (x8_1 + 1))) = false := bne_eq_false_iff_eq.mpr c48
           clear c48
           by_cases c49 : x7_2.length < 8796093022208
           ·rw [if_pos c49] at H
            have LMc49 := Aside0.mk c49
            clear c49
            obtain ⟨y146, hy146⟩ : ∃ y_ : List (S64), y_ = (x7_2 ++ [(⟨x8_1, x9_2⟩ : S64)]) := ⟨_, rfl⟩
            replace H : (spec_neWhole.l1 k2 a0 a1 a2 y146 x8_1 (wrap64 (x9_2 + 1))) = some r := by first | (rw [hy146]; with_reducible exact H) | (have H2_ := (Option.bind_some _ _).symm.trans H; rw [hy146]; with_reducible exact H2_) | (have H2_ := (Option.bind_some _ _).symm.trans H; with_reducible exact H2_) | with_reducible exact H | (rw [hy146]; exact H) | exact H
            have Ny146 := Aside0.mk hy146
            clear hy146
            have H' := Aside0.mk H
            clear H
            go_wp2_with (first | ((with_reducible refine gate_builtin (b := .append) (xs := #[.tmp 71, .tmp 75]) rfl ?_); at_builtin; refine Kd.R_append k64 (w0 := w) w.heap.size rfl (.tmp 71) (.tmp 75) 22 64 (.agg #[(.int .i64 0), (.int .i64 0)]) 16 rfl Try.underlying22 info64 rfl (by decide) (by omega) u7 x7_2 (⟨x8_1, x9_2⟩ : S64) [.int .i64 x8_1, .int .i64 x9_2] (fun _ => True) (fun _ => False) rfl rfl ?aP (fun _ hk => hk.elim) ?aF ?aO ?aB ?aS ?aL ?_; (case aP => exact k64_mkM _ _ _ (⟨x8_1, x9_2⟩ : S64)); (case aB => exact (by repeat (first | (with_reducible first | exact HB.out | apply below_alloc | apply pw_below_drewN | apply below_drew1) | exact HB.out))); (case aF => exact (fun _ _ => trivial)); (case aO => exact (by (with_reducible repeat (first | apply Kd.R_alloc | apply Kd.R_drewN | apply Kd.R_drew)); exact HO_7.out)); (case aS => exact (below_size (by repeat (first | (with_reducible first | exact HB.out | apply below_alloc | apply pw_below_drewN | apply below_drew1) | exact HB.out)))); (case aL => have := LMc49.out; omega); intro v147 w50 ho hb hg hat; rw [← Ny146.out] at ho; have n0_ := Aside0.mk (hb); have n1_ := Aside0.mk (ho); clear HB; clear HO_7; have HB := n0_; have HO148 := n1_; clear n0_ n1_; clear ho hb hg hat))
            go_roundg k2
            case measure => have := HK1.out; have := HK2.out; omega
            case rel => exact ⟨(y146), (wrap64 (x9_2 + 1)), (by first | rfl | (simp; done) | (simp [*]; done)), H', ⟨by have := HK1.out; have := HK2.out; omega⟩, ⟨by (with_reducible repeat (first | apply Kd.R_alloc | apply Kd.R_drewN | apply Kd.R_drew)); exact HO148.out⟩, ⟨by repeat (first | (with_reducible first | exact HB.out | apply below_alloc | apply pw_below_drewN | apply below_drew1) | exact HB.out)⟩⟩
           ·rw [if_neg c49] at H
            exact absurd H (by simp)
          ·rw [if_neg c48] at H
           have c48b0 : (x9_2 == (wrap64 (x8_1 + 1))) = false := beq_eq_false_iff_ne.mpr c48
           have c48b1 : (x9_2 != (wrap64 (x8_1 + 1))) = true := bne_iff_ne.mpr c48
           by_cases c51 : a1 = 1
           ·rw [if_pos c51] at H
            have c51b0 : (a1 == 1) = true := beq_iff_eq.mpr c51
            have c51b1 : (a1 != 1) = false := bne_eq_false_iff_eq.mpr c51
            clear c51
            by_cases c52 : x9_2 = (wrap64 (a0 - 1))
            ·rw [if_pos c52] at H
             have c52b0 : (x9_2 == (wrap64 (a0 - 1))) = true := beq_iff_eq.mpr c52
             have c52b1 : (x9_2 != (wrap64 (a0 - 1))) = false := bne_eq_false_iff_eq.mpr c52
             clear c52
             by_cases c53 : x7_2.length < 8796093022208
             ·rw [if_pos c53] at H
              have LMc53 := Aside0.mk c53
              clear c53
              obtain ⟨y149, hy149⟩ : ∃ y_ : List (S64), y_ = (x7_2 ++ [(⟨x8_1, x9_2⟩ : S64)]) := ⟨_, rfl⟩
              replace H : (spec_neWhole.l1 k2 a0 a1 a2 y149 x8_1 (wrap64 (x9_2 + 1))) = some r := by first | (rw [hy149]; with_reducible exact H) | (have H2_ := (Option.bind_some _ _).symm.trans H; rw [hy149]; with_reducible exact H2_) | (have H2_ := (Option.bind_some _ _).symm.trans H; with_reducible exact H2_) | with_reducible exact H | (rw [hy149]; exact H) | exact H
              have Ny149 := Aside0.mk hy149
              clear hy149
              have H' := Aside0.mk H
              clear H
              go_wp2_with (first | ((with_reducible refine gate_builtin (b := .append) (xs := #[.tmp 71, .tmp 75]) rfl ?_); at_builtin; refine Kd.R_append k64 (w0 := w) w.heap.size rfl (.tmp 71) (.tmp 75) 22 64 (.agg #[(.int .i64 0), (.int .i64 0)]) 16 rfl Try.underlying22 info64 rfl (by decide) (by omega) u7 x7_2 (⟨x8_1, x9_2⟩ : S64) [.int .i64 x8_1, .int .i64 x9_2] (fun _ => True) (fun _ => False) rfl rfl ?aP (fun _ hk => hk.elim) ?aF ?aO ?aB ?aS ?aL ?_; (case aP => exact k64_mkM _ _ _ (⟨x8_1, x9_2⟩ : S64)); (case aB => exact (by repeat (first | (with_reducible first | exact HB.out | apply below_alloc | apply pw_below_drewN | apply below_drew1) | exact HB.out))); (case aF => exact (fun _ _ => trivial)); (case aO => exact (by (with_reducible repeat (first | apply Kd.R_alloc | apply Kd.R_drewN | apply Kd.R_drew)); exact HO_7.out)); (case aS => exact (below_size (by repeat (first | (with_reducible first | exact HB.out | apply below_alloc | apply pw_below_drewN | apply below_drew1) | exact HB.out)))); (case aL => have := LMc53.out; omega); intro v150 w54 ho hb hg hat; rw [← Ny149.out] at ho; have n0_ := Aside0.mk (hb); have n1_ := Aside0.mk (ho); clear HB; clear HO_7; have HB := n0_; have HO151 := n1_; clear n0_ n1_; clear ho hb hg hat))
              go_roundg k2
              case measure => have := HK1.out; have := HK2.out; omega
              case rel => exact ⟨(y149), (wrap64 (x9_2 + 1)), (by first | rfl | (simp; done) | (simp [*]; done)), H', ⟨by have := HK1.out; have := HK2.out; omega⟩, ⟨by (with_reducible repeat (first | apply Kd.R_alloc | apply Kd.R_drewN | apply Kd.R_drew)); exact HO151.out⟩, ⟨by repeat (first | (with_reducible first | exact HB.out | apply below_alloc | apply pw_below_drewN | apply below_drew1) | exact HB.out)⟩⟩
             ·rw [if_neg c53] at H
              exact absurd H (by simp)
            ·rw [if_neg c52] at H
             have c52b0 : (x9_2 == (wrap64 (a0 - 1))) = false := beq_eq_false_iff_ne.mpr c52
             have c52b1 : (x9_2 != (wrap64 (a0 - 1))) = true := bne_iff_ne.mpr c52
             by_cases c55 : a1 = 2
             ·rw [if_pos c55] at H
              have c55b0 : (a1 == 2) = true := beq_iff_eq.mpr c55
              have c55b1 : (a1 != 2) = false := bne_eq_false_iff_eq.mpr c55
              clear c55
              by_cases c56 : x9_2 = a2
              ·rw [if_pos c56] at H
               have c56b0 : (x9_2 == a2) = true := beq_iff_eq.mpr c56
               have c56b1 : (x9_2 != a2) = false := bne_eq_false_iff_eq.mpr c56
               clear c56
               by_cases c57 : x7_2.length < 8796093022208
               ·rw [if_pos c57] at H
                have LMc57 := Aside0.mk c57
                clear c57
                obtain ⟨y152, hy152⟩ : ∃ y_ : List (S64), y_ = (x7_2 ++ [(⟨x8_1, x9_2⟩ : S64)]) := ⟨_, rfl⟩
                replace H : (spec_neWhole.l1 k2 a0 a1 a2 y152 x8_1 (wrap64 (x9_2 + 1))) = some r := by first | (rw [hy152]; with_reducible exact H) | (have H2_ := (Option.bind_some _ _).symm.trans H; rw [hy152]; with_reducible exact H2_) | (have H2_ := (Option.bind_some _ _).symm.trans H; with_reducible exact H2_) | with_reducible exact H | (rw [hy152]; exact H) | exact H
                have Ny152 := Aside0.mk hy152
                clear hy152
                have H' := Aside0.mk H
                clear H
                go_wp2_with (first | ((with_reducible refine gate_builtin (b := .append) (xs := #[.tmp 71, .tmp 75]) rfl ?_); at_builtin; refine Kd.R_append k64 (w0 := w) w.heap.size rfl (.tmp 71) (.tmp 75) 22 64 (.agg #[(.int .i64 0), (.int .i64 0)]) 16 rfl Try.underlying22 info64 rfl (by decide) (by omega) u7 x7_2 (⟨x8_1, x9_2⟩ : S64) [.int .i64 x8_1, .int .i64 x9_2] (fun _ => True) (fun _ => False) rfl rfl ?aP (fun _ hk => hk.elim) ?aF ?aO ?aB ?aS ?aL ?_; (case aP => exact k64_mkM _ _ _ (⟨x8_1, x9_2⟩ : S64)); (case aB => exact (by repeat (first | (with_reducible first | exact HB.out | apply below_alloc | apply pw_below_drewN | apply below_drew1) | exact HB.out))); (case aF => exact (fun _ _ => trivial)); (case aO => exact (by (with_reducible repeat (first | apply Kd.R_alloc | apply Kd.R_drewN | apply Kd.R_drew)); exact HO_7.out)); (case aS => exact (below_size (by repeat (first | (with_reducible first | exact HB.out | apply below_alloc | apply pw_below_drewN | apply below_drew1) | exact HB.out)))); (case aL => have := LMc57.out; omega); intro v153 w58 ho hb hg hat; rw [← Ny152.out] at ho; have n0_ := Aside0.mk (hb); have n1_ := Aside0.mk (ho); clear HB; clear HO_7; have HB := n0_; have HO154 := n1_; clear n0_ n1_; clear ho hb hg hat))
                go_roundg k2
                case measure => have := HK1.out; have := HK2.out; omega
                case rel => exact ⟨(y152), (wrap64 (x9_2 + 1)), (by first | rfl | (simp; done) | (simp [*]; done)), H', ⟨by have := HK1.out; have := HK2.out; omega⟩, ⟨by (with_reducible repeat (first | apply Kd.R_alloc | apply Kd.R_drewN | apply Kd.R_drew)); exact HO154.out⟩, ⟨by repeat (first | (with_reducible first | exact HB.out | apply below_alloc | apply pw_below_drewN | apply below_drew1) | exact HB.out)⟩⟩
               ·rw [if_neg c57] at H
                exact absurd H (by simp)
              ·rw [if_neg c56] at H
               have c56b0 : (x9_2 == a2) = false := beq_eq_false_iff_ne.mpr c56
               have c56b1 : (x9_2 != a2) = true := bne_iff_ne.mpr c56
               by_cases c59 : a1 = 3
               ·rw [if_pos c59] at H
                have c59b0 : (a1 == 3) = true := beq_iff_eq.mpr c59
                have c59b1 : (a1 != 3) = false := bne_eq_false_iff_eq.mpr c59
                clear c59
                by_cases c60 : x7_2.length < 8796093022208
                ·rw [if_pos c60] at H
                 have LMc60 := Aside0.mk c60
                 clear c60
                 obtain ⟨y155, hy155⟩ : ∃ y_ : List (S64), y_ = (x7_2 ++ [(⟨x8_1, x9_2⟩ : S64)]) := ⟨_, rfl⟩
                 replace H : (spec_neWhole.l1 k2 a0 a1 a2 y155 x8_1 (wrap64 (x9_2 + 1))) = some r := by first | (rw [hy155]; with_reducible exact H) | (have H2_ := (Option.bind_some _ _).symm.trans H; rw [hy155]; with_reducible exact H2_) | (have H2_ := (Option.bind_some _ _).symm.trans H; with_reducible exact H2_) | with_reducible exact H | (rw [hy155]; exact H) | exact H
                 have Ny155 := Aside0.mk hy155
                 clear hy155
                 have H' := Aside0.mk H
                 clear H
                 go_wp2_with (first | ((with_reducible refine gate_builtin (b := .append) (xs := #[.tmp 71, .tmp 75]) rfl ?_); at_builtin; refine Kd.R_append k64 (w0 := w) w.heap.size rfl (.tmp 71) (.tmp 75) 22 64 (.agg #[(.int .i64 0), (.int .i64 0)]) 16 rfl Try.underlying22 info64 rfl (by decide) (by omega) u7 x7_2 (⟨x8_1, x9_2⟩ : S64) [.int .i64 x8_1, .int .i64 x9_2] (fun _ => True) (fun _ => False) rfl rfl ?aP (fun _ hk => hk.elim) ?aF ?aO ?aB ?aS ?aL ?_; (case aP => exact k64_mkM _ _ _ (⟨x8_1, x9_2⟩ : S64)); (case aB => exact (by repeat (first | (with_reducible first | exact HB.out | apply below_alloc | apply pw_below_drewN | apply below_drew1) | exact HB.out))); (case aF => exact (fun _ _ => trivial)); (case aO => exact (by (with_reducible repeat (first | apply Kd.R_alloc | apply Kd.R_drewN | apply Kd.R_drew)); exact HO_7.out)); (case aS => exact (below_size (by repeat (first | (with_reducible first | exact HB.out | apply below_alloc | apply pw_below_drewN | apply below_drew1) | exact HB.out)))); (case aL => have := LMc60.out; omega); intro v156 w61 ho hb hg hat; rw [← Ny155.out] at ho; have n0_ := Aside0.mk (hb); have n1_ := Aside0.mk (ho); clear HB; clear HO_7; have HB := n0_; have HO157 := n1_; clear n0_ n1_; clear ho hb hg hat))
                 go_roundg k2
                 case measure => have := HK1.out; have := HK2.out; omega
                 case rel => exact ⟨(y155), (wrap64 (x9_2 + 1)), (by first | rfl | (simp; done) | (simp [*]; done)), H', ⟨by have := HK1.out; have := HK2.out; omega⟩, ⟨by (with_reducible repeat (first | apply Kd.R_alloc | apply Kd.R_drewN | apply Kd.R_drew)); exact HO157.out⟩, ⟨by repeat (first | (with_reducible first | exact HB.out | apply below_alloc | apply pw_below_drewN | apply below_drew1) | exact HB.out)⟩⟩
                ·rw [if_neg c60] at H
                 exact absurd H (by simp)
               ·rw [if_neg c59] at H
                have c59b0 : (a1 == 3) = false := beq_eq_false_iff_ne.mpr c59
                have c59b1 : (a1 != 3) = true := bne_iff_ne.mpr c59
                have H' := Aside0.mk H
                clear H
                go_wp2
                go_roundg k2
                case measure => have := HK1.out; have := HK2.out; omega
                case rel => exact ⟨(x7_2), (wrap64 (x9_2 + 1)), (by first | rfl | (simp; done) | (simp [*]; done)), H', ⟨by have := HK1.out; have := HK2.out; omega⟩, ⟨by (with_reducible repeat (first | apply Kd.R_alloc | apply Kd.R_drewN | apply Kd.R_drew)); exact HO_7.out⟩, ⟨by repeat (first | (with_reducible first | exact HB.out | apply below_alloc | apply pw_below_drewN | apply below_drew1) | exact HB.out)⟩⟩
             ·rw [if_neg c55] at H
              have c55b0 : (a1 == 2) = false := beq_eq_false_iff_ne.mpr c55
              have c55b1 : (a1 != 2) = true := bne_iff_ne.mpr c55
              by_cases c62 : a1 = 3
              ·rw [if_pos c62] at H
               have c62b0 : (a1 == 3) = true := beq_iff_eq.mpr c62
               have c62b1 : (a1 != 3) = false := bne_eq_false_iff_eq.mpr c62
               clear c62
               by_cases c63 : x7_2.length < 8796093022208
               ·rw [if_pos c63] at H
                have LMc63 := Aside0.mk c63
                clear c63
                obtain ⟨y158, hy158⟩ : ∃ y_ : List (S64), y_ = (x7_2 ++ [(⟨x8_1, x9_2⟩ : S64)]) := ⟨_, rfl⟩
                replace H : (spec_neWhole.l1 k2 a0 a1 a2 y158 x8_1 (wrap64 (x9_2 + 1))) = some r := by first | (rw [hy158]; with_reducible exact H) | (have H2_ := (Option.bind_some _ _).symm.trans H; rw [hy158]; with_reducible exact H2_) | (have H2_ := (Option.bind_some _ _).symm.trans H; with_reducible exact H2_) | with_reducible exact H | (rw [hy158]; exact H) | exact H
                have Ny158 := Aside0.mk hy158
                clear hy158
                have H' := Aside0.mk H
                clear H
                go_wp2_with (first | ((with_reducible refine gate_builtin (b := .append) (xs := #[.tmp 71, .tmp 75]) rfl ?_); at_builtin; refine Kd.R_append k64 (w0 := w) w.heap.size rfl (.tmp 71) (.tmp 75) 22 64 (.agg #[(.int .i64 0), (.int .i64 0)]) 16 rfl Try.underlying22 info64 rfl (by decide) (by omega) u7 x7_2 (⟨x8_1, x9_2⟩ : S64) [.int .i64 x8_1, .int .i64 x9_2] (fun _ => True) (fun _ => False) rfl rfl ?aP (fun _ hk => hk.elim) ?aF ?aO ?aB ?aS ?aL ?_; (case aP => exact k64_mkM _ _ _ (⟨x8_1, x9_2⟩ : S64)); (case aB => exact (by repeat (first | (with_reducible first | exact HB.out | apply below_alloc | apply pw_below_drewN | apply below_drew1) | exact HB.out))); (case aF => exact (fun _ _ => trivial)); (case aO => exact (by (with_reducible repeat (first | apply Kd.R_alloc | apply Kd.R_drewN | apply Kd.R_drew)); exact HO_7.out)); (case aS => exact (below_size (by repeat (first | (with_reducible first | exact HB.out | apply below_alloc | apply pw_below_drewN | apply below_drew1) | exact HB.out)))); (case aL => have := LMc63.out; omega); intro v159 w64 ho hb hg hat; rw [← Ny158.out] at ho; have n0_ := Aside0.mk (hb); have n1_ := Aside0.mk (ho); clear HB; clear HO_7; have HB := n0_; have HO160 := n1_; clear n0_ n1_; clear ho hb hg hat))
                go_roundg k2
                case measure => have := HK1.out; have := HK2.out; omega
                case rel => exact ⟨(y158), (wrap64 (x9_2 + 1)), (by first | rfl | (simp; done) | (simp [*]; done)), H', ⟨by have := HK1.out; have := HK2.out; omega⟩, ⟨by (with_reducible repeat (first | apply Kd.R_alloc | apply Kd.R_drewN | apply Kd.R_drew)); exact HO160.out⟩, ⟨by repeat (first | (with_reducible first | exact HB.out | apply below_alloc | apply pw_below_drewN | apply below_drew1) | exact HB.out)⟩⟩
               ·rw [if_neg c63] at H
                exact absurd H (by simp)
              ·rw [if_neg c62] at H
               have c62b0 : (a1 == 3) = false := beq_eq_false_iff_ne.mpr c62
               have c62b1 : (a1 != 3) = true := bne_iff_ne.mpr c62
               have H' := Aside0.mk H
               clear H
               go_wp2
               go_roundg k2
               case measure => have := HK1.out; have := HK2.out; omega
               case rel => exact ⟨(x7_2), (wrap64 (x9_2 + 1)), (by first | rfl | (simp; done) | (simp [*]; done)), H', ⟨by have := HK1.out; have := HK2.out; omega⟩, ⟨by (with_reducible repeat (first | apply Kd.R_alloc | apply Kd.R_drewN | apply Kd.R_drew)); exact HO_7.out⟩, ⟨by repeat (first | (with_reducible first | exact HB.out | apply below_alloc | apply pw_below_drewN | apply below_drew1) | exact HB.out)⟩⟩
           ·rw [if_neg c51] at H
            have c51b0 : (a1 == 1) = false := beq_eq_false_iff_ne.mpr c51
            have c51b1 : (a1 != 1) = true := bne_iff_ne.mpr c51
            by_cases c65 : a1 = 2
            ·rw [if_pos c65] at H
             have c65b0 : (a1 == 2) = true := beq_iff_eq.mpr c65
             have c65b1 : (a1 != 2) = false := bne_eq_false_iff_eq.mpr c65
             clear c65
             by_cases c66 : x9_2 = a2
             ·rw [if_pos c66] at H
              have c66b0 : (x9_2 == a2) = true := beq_iff_eq.mpr c66
              have c66b1 : (x9_2 != a2) = false := bne_eq_false_iff_eq.mpr c66
              clear c66
              by_cases c67 : x7_2.length < 8796093022208
              ·rw [if_pos c67] at H
               have LMc67 := Aside0.mk c67
               clear c67
               obtain ⟨y161, hy161⟩ : ∃ y_ : List (S64), y_ = (x7_2 ++ [(⟨x8_1, x9_2⟩ : S64)]) := ⟨_, rfl⟩
               replace H : (spec_neWhole.l1 k2 a0 a1 a2 y161 x8_1 (wrap64 (x9_2 + 1))) = some r := by first | (rw [hy161]; with_reducible exact H) | (have H2_ := (Option.bind_some _ _).symm.trans H; rw [hy161]; with_reducible exact H2_) | (have H2_ := (Option.bind_some _ _).symm.trans H; with_reducible exact H2_) | with_reducible exact H | (rw [hy161]; exact H) | exact H
               have Ny161 := Aside0.mk hy161
               clear hy161
               have H' := Aside0.mk H
               clear H
               go_wp2_with (first | ((with_reducible refine gate_builtin (b := .append) (xs := #[.tmp 71, .tmp 75]) rfl ?_); at_builtin; refine Kd.R_append k64 (w0 := w) w.heap.size rfl (.tmp 71) (.tmp 75) 22 64 (.agg #[(.int .i64 0), (.int .i64 0)]) 16 rfl Try.underlying22 info64 rfl (by decide) (by omega) u7 x7_2 (⟨x8_1, x9_2⟩ : S64) [.int .i64 x8_1, .int .i64 x9_2] (fun _ => True) (fun _ => False) rfl rfl ?aP (fun _ hk => hk.elim) ?aF ?aO ?aB ?aS ?aL ?_; (case aP => exact k64_mkM _ _ _ (⟨x8_1, x9_2⟩ : S64)); (case aB => exact (by repeat (first | (with_reducible first | exact HB.out | apply below_alloc | apply pw_below_drewN | apply below_drew1) | exact HB.out))); (case aF => exact (fun _ _ => trivial)); (case aO => exact (by (with_reducible repeat (first | apply Kd.R_alloc | apply Kd.R_drewN | apply Kd.R_drew)); exact HO_7.out)); (case aS => exact (below_size (by repeat (first | (with_reducible first | exact HB.out | apply below_alloc | apply pw_below_drewN | apply below_drew1) | exact HB.out)))); (case aL => have := LMc67.out; omega); intro v162 w68 ho hb hg hat; rw [← Ny161.out] at ho; have n0_ := Aside0.mk (hb); have n1_ := Aside0.mk (ho); clear HB; clear HO_7; have HB := n0_; have HO163 := n1_; clear n0_ n1_; clear ho hb hg hat))
               go_roundg k2
               case measure => have := HK1.out; have := HK2.out; omega
               case rel => exact ⟨(y161), (wrap64 (x9_2 + 1)), (by first | rfl | (simp; done) | (simp [*]; done)), H', ⟨by have := HK1.out; have := HK2.out; omega⟩, ⟨by (with_reducible repeat (first | apply Kd.R_alloc | apply Kd.R_drewN | apply Kd.R_drew)); exact HO163.out⟩, ⟨by repeat (first | (with_reducible first | exact HB.out | apply below_alloc | apply pw_below_drewN | apply below_drew1) | exact HB.out)⟩⟩
              ·rw [if_neg c67] at H
               exact absurd H (by simp)
             ·rw [if_neg c66] at H
              have c66b0 : (x9_2 == a2) = false := beq_eq_false_iff_ne.mpr c66
              have c66b1 : (x9_2 != a2) = true := bne_iff_ne.mpr c66
              by_cases c69 : a1 = 3
              ·rw [if_pos c69] at H
               have c69b0 : (a1 == 3) = true := beq_iff_eq.mpr c69
               have c69b1 : (a1 != 3) = false := bne_eq_false_iff_eq.mpr c69
               clear c69
               by_cases c70 : x7_2.length < 8796093022208
               ·rw [if_pos c70] at H
                have LMc70 := Aside0.mk c70
                clear c70
                obtain ⟨y164, hy164⟩ : ∃ y_ : List (S64), y_ = (x7_2 ++ [(⟨x8_1, x9_2⟩ : S64)]) := ⟨_, rfl⟩
                replace H : (spec_neWhole.l1 k2 a0 a1 a2 y164 x8_1 (wrap64 (x9_2 + 1))) = some r := by first | (rw [hy164]; with_reducible exact H) | (have H2_ := (Option.bind_some _ _).symm.trans H; rw [hy164]; with_reducible exact H2_) | (have H2_ := (Option.bind_some _ _).symm.trans H; with_reducible exact H2_) | with_reducible exact H | (rw [hy164]; exact H) | exact H
                have Ny164 := Aside0.mk hy164
                clear hy164
                have H' := Aside0.mk H
                clear H
                go_wp2_with (first | ((with_reducible refine gate_builtin (b := .append) (xs := #[.tmp 71, .tmp 75]) rfl ?_); at_builtin; refine Kd.R_append k64 (w0 := w) w.heap.size rfl (.tmp 71) (.tmp 75) 22 64 (.agg #[(.int .i64 0), (.int .i64 0)]) 16 rfl Try.underlying22 info64 rfl (by decide) (by omega) u7 x7_2 (⟨x8_1, x9_2⟩ : S64) [.int .i64 x8_1, .int .i64 x9_2] (fun _ => True) (fun _ => False) rfl rfl ?aP (fun _ hk => hk.elim) ?aF ?aO ?aB ?aS ?aL ?_; (case aP => exact k64_mkM _ _ _ (⟨x8_1, x9_2⟩ : S64)); (case aB => exact (by repeat (first | (with_reducible first | exact HB.out | apply below_alloc | apply pw_below_drewN | apply below_drew1) | exact HB.out))); (case aF => exact (fun _ _ => trivial)); (case aO => exact (by (with_reducible repeat (first | apply Kd.R_alloc | apply Kd.R_drewN | apply Kd.R_drew)); exact HO_7.out)); (case aS => exact (below_size (by repeat (first | (with_reducible first | exact HB.out | apply below_alloc | apply pw_below_drewN | apply below_drew1) | exact HB.out)))); (case aL => have := LMc70.out; omega); intro v165 w71 ho hb hg hat; rw [← Ny164.out] at ho; have n0_ := Aside0.mk (hb); have n1_ := Aside0.mk (ho); clear HB; clear HO_7; have HB := n0_; have HO166 := n1_; clear n0_ n1_; clear ho hb hg hat))
                go_roundg k2
                case measure => have := HK1.out; have := HK2.out; omega
                case rel => exact ⟨(y164), (wrap64 (x9_2 + 1)), (by first | rfl | (simp; done) | (simp [*]; done)), H', ⟨by have := HK1.out; have := HK2.out; omega⟩, ⟨by (with_reducible repeat (first | apply Kd.R_alloc | apply Kd.R_drewN | apply Kd.R_drew)); exact HO166.out⟩, ⟨by repeat (first | (with_reducible first | exact HB.out | apply below_alloc | apply pw_below_drewN | apply below_drew1) | exact HB.out)⟩⟩
               ·rw [if_neg c70] at H
                exact absurd H (by simp)
              ·rw [if_neg c69] at H
               have c69b0 : (a1 == 3) = false := beq_eq_false_iff_ne.mpr c69
               have c69b1 : (a1 != 3) = true := bne_iff_ne.mpr c69
               have H' := Aside0.mk H
               clear H
               go_wp2
               go_roundg k2
               case measure => have := HK1.out; have := HK2.out; omega
               case rel => exact ⟨(x7_2), (wrap64 (x9_2 + 1)), (by first | rfl | (simp; done) | (simp [*]; done)), H', ⟨by have := HK1.out; have := HK2.out; omega⟩, ⟨by (with_reducible repeat (first | apply Kd.R_alloc | apply Kd.R_drewN | apply Kd.R_drew)); exact HO_7.out⟩, ⟨by repeat (first | (with_reducible first | exact HB.out | apply below_alloc | apply pw_below_drewN | apply below_drew1) | exact HB.out)⟩⟩
            ·rw [if_neg c65] at H
             have c65b0 : (a1 == 2) = false := beq_eq_false_iff_ne.mpr c65
             have c65b1 : (a1 != 2) = true := bne_iff_ne.mpr c65
             by_cases c72 : a1 = 3
             ·rw [if_pos c72] at H
              have c72b0 : (a1 == 3) = true := beq_iff_eq.mpr c72
              have c72b1 : (a1 != 3) = false := bne_eq_false_iff_eq.mpr c72
              clear c72
              by_cases c73 : x7_2.length < 8796093022208
              ·rw [if_pos c73] at H
               have LMc73 := Aside0.mk c73
               clear c73
               obtain ⟨y167, hy167⟩ : ∃ y_ : List (S64), y_ = (x7_2 ++ [(⟨x8_1, x9_2⟩ : S64)]) := ⟨_, rfl⟩
               replace H : (spec_neWhole.l1 k2 a0 a1 a2 y167 x8_1 (wrap64 (x9_2 + 1))) = some r := by first | (rw [hy167]; with_reducible exact H) | (have H2_ := (Option.bind_some _ _).symm.trans H; rw [hy167]; with_reducible exact H2_) | (have H2_ := (Option.bind_some _ _).symm.trans H; with_reducible exact H2_) | with_reducible exact H | (rw [hy167]; exact H) | exact H
               have Ny167 := Aside0.mk hy167
               clear hy167
               have H' := Aside0.mk H
               clear H
               go_wp2_with (first | ((with_reducible refine gate_builtin (b := .append) (xs := #[.tmp 71, .tmp 75]) rfl ?_); at_builtin; refine Kd.R_append k64 (w0 := w) w.heap.size rfl (.tmp 71) (.tmp 75) 22 64 (.agg #[(.int .i64 0), (.int .i64 0)]) 16 rfl Try.underlying22 info64 rfl (by decide) (by omega) u7 x7_2 (⟨x8_1, x9_2⟩ : S64) [.int .i64 x8_1, .int .i64 x9_2] (fun _ => True) (fun _ => False) rfl rfl ?aP (fun _ hk => hk.elim) ?aF ?aO ?aB ?aS ?aL ?_; (case aP => exact k64_mkM _ _ _ (⟨x8_1, x9_2⟩ : S64)); (case aB => exact (by repeat (first | (with_reducible first | exact HB.out | apply below_alloc | apply pw_below_drewN | apply below_drew1) | exact HB.out))); (case aF => exact (fun _ _ => trivial)); (case aO => exact (by (with_reducible repeat (first | apply Kd.R_alloc | apply Kd.R_drewN | apply Kd.R_drew)); exact HO_7.out)); (case aS => exact (below_size (by repeat (first | (with_reducible first | exact HB.out | apply below_alloc | apply pw_below_drewN | apply below_drew1) | exact HB.out)))); (case aL => have := LMc73.out; omega); intro v168 w74 ho hb hg hat; rw [← Ny167.out] at ho; have n0_ := Aside0.mk (hb); have n1_ := Aside0.mk (ho); clear HB; clear HO_7; have HB := n0_; have HO169 := n1_; clear n0_ n1_; clear ho hb hg hat))
               go_roundg k2
               case measure => have := HK1.out; have := HK2.out; omega
               case rel => exact ⟨(y167), (wrap64 (x9_2 + 1)), (by first | rfl | (simp; done) | (simp [*]; done)), H', ⟨by have := HK1.out; have := HK2.out; omega⟩, ⟨by (with_reducible repeat (first | apply Kd.R_alloc | apply Kd.R_drewN | apply Kd.R_drew)); exact HO169.out⟩, ⟨by repeat (first | (with_reducible first | exact HB.out | apply below_alloc | apply pw_below_drewN | apply below_drew1) | exact HB.out)⟩⟩
              ·rw [if_neg c73] at H
               exact absurd H (by simp)
             ·rw [if_neg c72] at H
              have c72b0 : (a1 == 3) = false := beq_eq_false_iff_ne.mpr c72
              have c72b1 : (a1 != 3) = true := bne_iff_ne.mpr c72
              have H' := Aside0.mk H
              clear H
              go_wp2
              go_roundg k2
              case measure => have := HK1.out; have := HK2.out; omega
              case rel => exact ⟨(x7_2), (wrap64 (x9_2 + 1)), (by first | rfl | (simp; done) | (simp [*]; done)), H', ⟨by have := HK1.out; have := HK2.out; omega⟩, ⟨by (with_reducible repeat (first | apply Kd.R_alloc | apply Kd.R_drewN | apply Kd.R_drew)); exact HO_7.out⟩, ⟨by repeat (first | (with_reducible first | exact HB.out | apply below_alloc | apply pw_below_drewN | apply below_drew1) | exact HB.out)⟩⟩
         ·rw [if_neg c47] at H
          have c47b0 : (a1 == 0) = false := beq_eq_false_iff_ne.mpr c47
          have c47b1 : (a1 != 0) = true := bne_iff_ne.mpr c47
          by_cases c75 : a1 = 1
          ·rw [if_pos c75] at H
           have c75b0 : (a1 == 1) = true := beq_iff_eq.mpr c75
           have c75b1 : (a1 != 1) = false := bne_eq_false_iff_eq.mpr c75
           clear c75
           by_cases c76 : x9_2 = (wrap64 (x8_1 + 1))
           ·rw [if_pos c76] at H
            have c76b0 : (x9_2 == (wrap64 (x8_1 + 1))) = true := beq_iff_eq.mpr c76
            have c76b1 : (x9_2 != (wrap64 (x8_1 + 1))) = false := bne_eq_false_iff_eq.mpr c76
            clear c76
            by_cases c77 : x7_2.length < 8796093022208
            ·rw [if_pos c77] at H
             have LMc77 := Aside0.mk c77
             clear c77
             obtain ⟨y170, hy170⟩ : ∃ y_ : List (S64), y_ = (x7_2 ++ [(⟨x8_1, x9_2⟩ : S64)]) := ⟨_, rfl⟩
             replace H : (spec_neWhole.l1 k2 a0 a1 a2 y170 x8_1 (wrap64 (x9_2 + 1))) = some r := by first | (rw [hy170]; with_reducible exact H) | (have H2_ := (Option.bind_some _ _).symm.trans H; rw [hy170]; with_reducible exact H2_) | (have H2_ := (Option.bind_some _ _).symm.trans H; with_reducible exact H2_) | with_reducible exact H | (rw [hy170]; exact H) | exact H
             have Ny170 := Aside0.mk hy170
             clear hy170
             have H' := Aside0.mk H
             clear H
             go_wp2_with (first | ((with_reducible refine gate_builtin (b := .append) (xs := #[.tmp 71, .tmp 75]) rfl ?_); at_builtin; refine Kd.R_append k64 (w0 := w) w.heap.size rfl (.tmp 71) (.tmp 75) 22 64 (.agg #[(.int .i64 0), (.int .i64 0)]) 16 rfl Try.underlying22 info64 rfl (by decide) (by omega) u7 x7_2 (⟨x8_1, x9_2⟩ : S64) [.int .i64 x8_1, .int .i64 x9_2] (fun _ => True) (fun _ => False) rfl rfl ?aP (fun _ hk => hk.elim) ?aF ?aO ?aB ?aS ?aL ?_; (case aP => exact k64_mkM _ _ _ (⟨x8_1, x9_2⟩ : S64)); (case aB => exact (by repeat (first | (with_reducible first | exact HB.out | apply below_alloc | apply pw_below_drewN | apply below_drew1) | exact HB.out))); (case aF => exact (fun _ _ => trivial)); (case aO => exact (by (with_reducible repeat (first | apply Kd.R_alloc | apply Kd.R_drewN | apply Kd.R_drew)); exact HO_7.out)); (case aS => exact (below_size (by repeat (first | (with_reducible first | exact HB.out | apply below_alloc | apply pw_below_drewN | apply below_drew1) | exact HB.out)))); (case aL => have := LMc77.out; omega); intro v171 w78 ho hb hg hat; rw [← Ny170.out] at ho; have n0_ := Aside0.mk (hb); have n1_ := Aside0.mk (ho); clear HB; clear HO_7; have HB := n0_; have HO172 := n1_; clear n0_ n1_; clear ho hb hg hat))
             go_roundg k2
             case measure => have := HK1.out; have := HK2.out; omega
             case rel => exact ⟨(y170), (wrap64 (x9_2 + 1)), (by first | rfl | (simp; done) | (simp [*]; done)), H', ⟨by have := HK1.out; have := HK2.out; omega⟩, ⟨by (with_reducible repeat (first | apply Kd.R_alloc | apply Kd.R_drewN | apply Kd.R_drew)); exact HO172.out⟩, ⟨by repeat (first | (with_reducible first | exact HB.out | apply below_alloc | apply pw_below_drewN | apply below_drew1) | exact HB.out)⟩⟩
            ·rw [if_neg c77] at H
             exact absurd H (by simp)
           ·rw [if_neg c76] at H
            have c76b0 : (x9_2 == (wrap64 (x8_1 + 1))) = false := beq_eq_false_iff_ne.mpr c76
            have c76b1 : (x9_2 != (wrap64 (x8_1 + 1))) = true := bne_iff_ne.mpr c76
            by_cases c79 : x9_2 = (wrap64 (a0 - 1))
            ·rw [if_pos c79] at H
             have c79b0 : (x9_2 == (wrap64 (a0 - 1))) = true := beq_iff_eq.mpr c79
             have c79b1 : (x9_2 != (wrap64 (a0 - 1))) = false := bne_eq_false_iff_eq.mpr c79
             clear c79
             by_cases c80 : x7_2.length < 8796093022208
             ·rw [if_pos c80] at H
              have LMc80 := Aside0.mk c80
              clear c80
              obtain ⟨y173, hy173⟩ : ∃ y_ : List (S64), y_ = (x7_2 ++ [(⟨x8_1, x9_2⟩ : S64)]) := ⟨_, rfl⟩
              replace H : (spec_neWhole.l1 k2 a0 a1 a2 y173 x8_1 (wrap64 (x9_2 + 1))) = some r := by first | (rw [hy173]; with_reducible exact H) | (have H2_ := (Option.bind_some _ _).symm.trans H; rw [hy173]; with_reducible exact H2_) | (have H2_ := (Option.bind_some _ _).symm.trans H; with_reducible exact H2_) | with_reducible exact H | (rw [hy173]; exact H) | exact H
              have Ny173 := Aside0.mk hy173
              clear hy173
              have H' := Aside0.mk H
              clear H
              go_wp2_with (first | ((with_reducible refine gate_builtin (b := .append) (xs := #[.tmp 71, .tmp 75]) rfl ?_); at_builtin; refine Kd.R_append k64 (w0 := w) w.heap.size rfl (.tmp 71) (.tmp 75) 22 64 (.agg #[(.int .i64 0), (.int .i64 0)]) 16 rfl Try.underlying22 info64 rfl (by decide) (by omega) u7 x7_2 (⟨x8_1, x9_2⟩ : S64) [.int .i64 x8_1, .int .i64 x9_2] (fun _ => True) (fun _ => False) rfl rfl ?aP (fun _ hk => hk.elim) ?aF ?aO ?aB ?aS ?aL ?_; (case aP => exact k64_mkM _ _ _ (⟨x8_1, x9_2⟩ : S64)); (case aB => exact (by repeat (first | (with_reducible first | exact HB.out | apply below_alloc | apply pw_below_drewN | apply below_drew1) | exact HB.out))); (case aF => exact (fun _ _ => trivial)); (case aO => exact (by (with_reducible repeat (first | apply Kd.R_alloc | apply Kd.R_drewN | apply Kd.R_drew)); exact HO_7.out)); (case aS => exact (below_size (by repeat (first | (with_reducible first | exact HB.out | apply below_alloc | apply pw_below_drewN | apply below_drew1) | exact HB.out)))); (case aL => have := LMc80.out; omega); intro v174 w81 ho hb hg hat; rw [← Ny173.out] at ho; have n0_ := Aside0.mk (hb); have n1_ := Aside0.mk (ho); clear HB; clear HO_7; have HB := n0_; have HO175 := n1_; clear n0_ n1_; clear ho hb hg hat))
              go_roundg k2
              case measure => have := HK1.out; have := HK2.out; omega
              case rel => exact ⟨(y173), (wrap64 (x9_2 + 1)), (by first | rfl | (simp; done) | (simp [*]; done)), H', ⟨by have := HK1.out; have := HK2.out; omega⟩, ⟨by (with_reducible repeat (first | apply Kd.R_alloc | apply Kd.R_drewN | apply Kd.R_drew)); exact HO175.out⟩, ⟨by repeat (first | (with_reducible first | exact HB.out | apply below_alloc | apply pw_below_drewN | apply below_drew1) | exact HB.out)⟩⟩
             ·rw [if_neg c80] at H
              exact absurd H (by simp)
            ·rw [if_neg c79] at H
             have c79b0 : (x9_2 == (wrap64 (a0 - 1))) = false := beq_eq_false_iff_ne.mpr c79
             have c79b1 : (x9_2 != (wrap64 (a0 - 1))) = true := bne_iff_ne.mpr c79
             by_cases c82 : a1 = 2
             ·rw [if_pos c82] at H
              have c82b0 : (a1 == 2) = true := beq_iff_eq.mpr c82
              have c82b1 : (a1 != 2) = false := bne_eq_false_iff_eq.mpr c82
              clear c82
              by_cases c83 : x9_2 = a2
              ·rw [if_pos c83] at H
               have c83b0 : (x9_2 == a2) = true := beq_iff_eq.mpr c83
               have c83b1 : (x9_2 != a2) = false := bne_eq_false_iff_eq.mpr c83
               clear c83
               by_cases c84 : x7_2.length < 8796093022208
               ·rw [if_pos c84] at H
                have LMc84 := Aside0.mk c84
                clear c84
                obtain ⟨y176, hy176⟩ : ∃ y_ : List (S64), y_ = (x7_2 ++ [(⟨x8_1, x9_2⟩ : S64)]) := ⟨_, rfl⟩
                replace H : (spec_neWhole.l1 k2 a0 a1 a2 y176 x8_1 (wrap64 (x9_2 + 1))) = some r := by first | (rw [hy176]; with_reducible exact H) | (have H2_ := (Option.bind_some _ _).symm.trans H; rw [hy176]; with_reducible exact H2_) | (have H2_ := (Option.bind_some _ _).symm.trans H; with_reducible exact H2_) | with_reducible exact H | (rw [hy176]; exact H) | exact H
                have Ny176 := Aside0.mk hy176
                clear hy176
                have H' := Aside0.mk H
                clear H
                go_wp2_with (first | ((with_reducible refine gate_builtin (b := .append) (xs := #[.tmp 71, .tmp 75]) rfl ?_); at_builtin; refine Kd.R_append k64 (w0 := w) w.heap.size rfl (.tmp 71) (.tmp 75) 22 64 (.agg #[(.int .i64 0), (.int .i64 0)]) 16 rfl Try.underlying22 info64 rfl (by decide) (by omega) u7 x7_2 (⟨x8_1, x9_2⟩ : S64) [.int .i64 x8_1, .int .i64 x9_2] (fun _ => True) (fun _ => False) rfl rfl ?aP (fun _ hk => hk.elim) ?aF ?aO ?aB ?aS ?aL ?_; (case aP => exact k64_mkM _ _ _ (⟨x8_1, x9_2⟩ : S64)); (case aB => exact (by repeat (first | (with_reducible first | exact HB.out | apply below_alloc | apply pw_below_drewN | apply below_drew1) | exact HB.out))); (case aF => exact (fun _ _ => trivial)); (case aO => exact (by (with_reducible repeat (first | apply Kd.R_alloc | apply Kd.R_drewN | apply Kd.R_drew)); exact HO_7.out)); (case aS => exact (below_size (by repeat (first | (with_reducible first | exact HB.out | apply below_alloc | apply pw_below_drewN | apply below_drew1) | exact HB.out)))); (case aL => have := LMc84.out; omega); intro v177 w85 ho hb hg hat; rw [← Ny176.out] at ho; have n0_ := Aside0.mk (hb); have n1_ := Aside0.mk (ho); clear HB; clear HO_7; have HB := n0_; have HO178 := n1_; clear n0_ n1_; clear ho hb hg hat))
                go_roundg k2
                case measure => have := HK1.out; have := HK2.out; omega
                case rel => exact ⟨(y176), (wrap64 (x9_2 + 1)), (by first | rfl | (simp; done) | (simp [*]; done)), H', ⟨by have := HK1.out; have := HK2.out; omega⟩, ⟨by (with_reducible repeat (first | apply Kd.R_alloc | apply Kd.R_drewN | apply Kd.R_drew)); exact HO178.out⟩, ⟨by repeat (first | (with_reducible first | exact HB.out | apply below_alloc | apply pw_below_drewN | apply below_drew1) | exact HB.out)⟩⟩
               ·rw [if_neg c84] at H
                exact absurd H (by simp)
              ·rw [if_neg c83] at H
               have c83b0 : (x9_2 == a2) = false := beq_eq_false_iff_ne.mpr c83
               have c83b1 : (x9_2 != a2) = true := bne_iff_ne.mpr c83
               by_cases c86 : a1 = 3
               ·rw [if_pos c86] at H
                have c86b0 : (a1 == 3) = true := beq_iff_eq.mpr c86
                have c86b1 : (a1 != 3) = false := bne_eq_false_iff_eq.mpr c86
                clear c86
                by_cases c87 : x7_2.length < 8796093022208
                ·rw [if_pos c87] at H
                 have LMc87 := Aside0.mk c87
                 clear c87
                 obtain ⟨y179, hy179⟩ : ∃ y_ : List (S64), y_ = (x7_2 ++ [(⟨x8_1, x9_2⟩ : S64)]) := ⟨_, rfl⟩
                 replace H : (spec_neWhole.l1 k2 a0 a1 a2 y179 x8_1 (wrap64 (x9_2 + 1))) = some r := by first | (rw [hy179]; with_reducible exact H) | (have H2_ := (Option.bind_some _ _).symm.trans H; rw [hy179]; with_reducible exact H2_) | (have H2_ := (Option.bind_some _ _).symm.trans H; with_reducible exact H2_) | with_reducible exact H | (rw [hy179]; exact H) | exact H
                 have Ny179 := Aside0.mk hy179
                 clear hy179
                 have H' := Aside0.mk H
                 clear H
                 go_wp2_with (first | ((with_reducible refine gate_builtin (b := .append) (xs := #[.tmp 71, .tmp 75]) rfl ?_); at_builtin; refine Kd.R_append k64 (w0 := w) w.heap.size rfl (.tmp 71) (.tmp 75) 22 64 (.agg #[(.int .i64 0), (.int .i64 0)]) 16 rfl Try.underlying22 info64 rfl (by decide) (by omega) u7 x7_2 (⟨x8_1, x9_2⟩ : S64) [.int .i64 x8_1, .int .i64 x9_2] (fun _ => True) (fun _ => False) rfl rfl ?aP (fun _ hk => hk.elim) ?aF ?aO ?aB ?aS ?aL ?_; (case aP => exact k64_mkM _ _ _ (⟨x8_1, x9_2⟩ : S64)); (case aB => exact (by repeat (first | (with_reducible first | exact HB.out | apply below_alloc | apply pw_below_drewN | apply below_drew1) | exact HB.out))); (case aF => exact (fun _ _ => trivial)); (case aO => exact (by (with_reducible repeat (first | apply Kd.R_alloc | apply Kd.R_drewN | apply Kd.R_drew)); exact HO_7.out)); (case aS => exact (below_size (by repeat (first | (with_reducible first | exact HB.out | apply below_alloc | apply pw_below_drewN | apply below_drew1) | exact HB.out)))); (case aL => have := LMc87.out; omega); intro v180 w88 ho hb hg hat; rw [← Ny179.out] at ho; have n0_ := Aside0.mk (hb); have n1_ := Aside0.mk (ho); clear HB; clear HO_7; have HB := n0_; have HO181 := n1_; clear n0_ n1_; clear ho hb hg hat))
                 go_roundg k2
                 case measure => have := HK1.out; have := HK2.out; omega
                 case rel => exact ⟨(y179), (wrap64 (x9_2 + 1)), (by first | rfl | (simp; done) | (simp [*]; done)), H', ⟨by have := HK1.out; have := HK2.out; omega⟩, ⟨by (with_reducible repeat (first | apply Kd.R_alloc | apply Kd.R_drewN | apply Kd.R_drew)); exact HO181.out⟩, ⟨by repeat (first | (with_reducible first | exact HB.out | apply below_alloc | apply pw_below_drewN | apply below_drew1) | exact HB.out)⟩⟩
                ·rw [if_neg c87] at H
                 exact absurd H (by simp)
               ·rw [if_neg c86] at H
                have c86b0 : (a1 == 3) = false := beq_eq_false_iff_ne.mpr c86
                have c86b1 : (a1 != 3) = true := bne_iff_ne.mpr c86
                have H' := Aside0.mk H
                clear H
                go_wp2
                go_roundg k2
                case measure => have := HK1.out; have := HK2.out; omega
                case rel => exact ⟨(x7_2), (wrap64 (x9_2 + 1)), (by first | rfl | (simp; done) | (simp [*]; done)), H', ⟨by have := HK1.out; have := HK2.out; omega⟩, ⟨by (with_reducible repeat (first | apply Kd.R_alloc | apply Kd.R_drewN | apply Kd.R_drew)); exact HO_7.out⟩, ⟨by repeat (first | (with_reducible first | exact HB.out | apply below_alloc | apply pw_below_drewN | apply below_drew1) | exact HB.out)⟩⟩
             ·rw [if_neg c82] at H
              have c82b0 : (a1 == 2) = false := beq_eq_false_iff_ne.mpr c82
              have c82b1 : (a1 != 2) = true := bne_iff_ne.mpr c82
              by_cases c89 : a1 = 3
              ·rw [if_pos c89] at H
               have c89b0 : (a1 == 3) = true := beq_iff_eq.mpr c89
               have c89b1 : (a1 != 3) = false := bne_eq_false_iff_eq.mpr c89
               clear c89
               by_cases c90 : x7_2.length < 8796093022208
               ·rw [if_pos c90] at H
                have LMc90 := Aside0.mk c90
                clear c90
                obtain ⟨y182, hy182⟩ : ∃ y_ : List (S64), y_ = (x7_2 ++ [(⟨x8_1, x9_2⟩ : S64)]) := ⟨_, rfl⟩
                replace H : (spec_neWhole.l1 k2 a0 a1 a2 y182 x8_1 (wrap64 (x9_2 + 1))) = some r := by first | (rw [hy182]; with_reducible exact H) | (have H2_ := (Option.bind_some _ _).symm.trans H; rw [hy182]; with_reducible exact H2_) | (have H2_ := (Option.bind_some _ _).symm.trans H; with_reducible exact H2_) | with_reducible exact H | (rw [hy182]; exact H) | exact H
                have Ny182 := Aside0.mk hy182
                clear hy182
                have H' := Aside0.mk H
                clear H
                go_wp2_with (first | ((with_reducible refine gate_builtin (b := .append) (xs := #[.tmp 71, .tmp 75]) rfl ?_); at_builtin; refine Kd.R_append k64 (w0 := w) w.heap.size rfl (.tmp 71) (.tmp 75) 22 64 (.agg #[(.int .i64 0), (.int .i64 0)]) 16 rfl Try.underlying22 info64 rfl (by decide) (by omega) u7 x7_2 (⟨x8_1, x9_2⟩ : S64) [.int .i64 x8_1, .int .i64 x9_2] (fun _ => True) (fun _ => False) rfl rfl ?aP (fun _ hk => hk.elim) ?aF ?aO ?aB ?aS ?aL ?_; (case aP => exact k64_mkM _ _ _ (⟨x8_1, x9_2⟩ : S64)); (case aB => exact (by repeat (first | (with_reducible first | exact HB.out | apply below_alloc | apply pw_below_drewN | apply below_drew1) | exact HB.out))); (case aF => exact (fun _ _ => trivial)); (case aO => exact (by (with_reducible repeat (first | apply Kd.R_alloc | apply Kd.R_drewN | apply Kd.R_drew)); exact HO_7.out)); (case aS => exact (below_size (by repeat (first | (with_reducible first | exact HB.out | apply below_alloc | apply pw_below_drewN | apply below_drew1) | exact HB.out)))); (case aL => have := LMc90.out; omega); intro v183 w91 ho hb hg hat; rw [← Ny182.out] at ho; have n0_ := Aside0.mk (hb); have n1_ := Aside0.mk (ho); clear HB; clear HO_7; have HB := n0_; have HO184 := n1_; clear n0_ n1_; clear ho hb hg hat))
                go_roundg k2
                case measure => have := HK1.out; have := HK2.out; omega
                case rel => exact ⟨(y182), (wrap64 (x9_2 + 1)), (by first | rfl | (simp; done) | (simp [*]; done)), H', ⟨by have := HK1.out; have := HK2.out; omega⟩, ⟨by (with_reducible repeat (first | apply Kd.R_alloc | apply Kd.R_drewN | apply Kd.R_drew)); exact HO184.out⟩, ⟨by repeat (first | (with_reducible first | exact HB.out | apply below_alloc | apply pw_below_drewN | apply below_drew1) | exact HB.out)⟩⟩
               ·rw [if_neg c90] at H
                exact absurd H (by simp)
              ·rw [if_neg c89] at H
               have c89b0 : (a1 == 3) = false := beq_eq_false_iff_ne.mpr c89
               have c89b1 : (a1 != 3) = true := bne_iff_ne.mpr c89
               have H' := Aside0.mk H
               clear H
               go_wp2
               go_roundg k2
               case measure => have := HK1.out; have := HK2.out; omega
               case rel => exact ⟨(x7_2), (wrap64 (x9_2 + 1)), (by first | rfl | (simp; done) | (simp [*]; done)), H', ⟨by have := HK1.out; have := HK2.out; omega⟩, ⟨by (with_reducible repeat (first | apply Kd.R_alloc | apply Kd.R_drewN | apply Kd.R_drew)); exact HO_7.out⟩, ⟨by repeat (first | (with_reducible first | exact HB.out | apply below_alloc | apply pw_below_drewN | apply below_drew1) | exact HB.out)⟩⟩
          ·rw [if_neg c75] at H
           have c75b0 : (a1 == 1) = false := beq_eq_false_iff_ne.mpr c75
           have c75b1 : (a1 != 1) = true := bne_iff_ne.mpr c75
           by_cases c92 : a1 = 2
           ·rw [if_pos c92] at H
            have c92b0 : (a1 == 2) = true := beq_iff_eq.mpr c92
            have c92b1 : (a1 != 2) = false := bne_eq_false_iff_eq.mpr c92
            clear c92
            by_cases c93 : x9_2 = a2
            ·rw [if_pos c93] at H
             have c93b0 : (x9_2 == a2) = true := beq_iff_eq.mpr c93
             have c93b1 : (x9_2 != a2) = false := bne_eq_false_iff_eq.mpr c93
             clear c93
             by_cases c94 : x7_2.length < 8796093022208
             ·rw [if_pos c94] at H
              have LMc94 := Aside0.mk c94
              clear c94
              obtain ⟨y185, hy185⟩ : ∃ y_ : List (S64), y_ = (x7_2 ++ [(⟨x8_1, x9_2⟩ : S64)]) := ⟨_, rfl⟩
              replace H : (spec_neWhole.l1 k2 a0 a1 a2 y185 x8_1 (wrap64 (x9_2 + 1))) = some r := by first | (rw [hy185]; with_reducible exact H) | (have H2_ := (Option.bind_some _ _).symm.trans H; rw [hy185]; with_reducible exact H2_) | (have H2_ := (Option.bind_some _ _).symm.trans H; with_reducible exact H2_) | with_reducible exact H | (rw [hy185]; exact H) | exact H
              have Ny185 := Aside0.mk hy185
              clear hy185
              have H' := Aside0.mk H
              clear H
              go_wp2_with (first | ((with_reducible refine gate_builtin (b := .append) (xs := #[.tmp 71, .tmp 75]) rfl ?_); at_builtin; refine Kd.R_append k64 (w0 := w) w.heap.size rfl (.tmp 71) (.tmp 75) 22 64 (.agg #[(.int .i64 0), (.int .i64 0)]) 16 rfl Try.underlying22 info64 rfl (by decide) (by omega) u7 x7_2 (⟨x8_1, x9_2⟩ : S64) [.int .i64 x8_1, .int .i64 x9_2] (fun _ => True) (fun _ => False) rfl rfl ?aP (fun _ hk => hk.elim) ?aF ?aO ?aB ?aS ?aL ?_; (case aP => exact k64_mkM _ _ _ (⟨x8_1, x9_2⟩ : S64)); (case aB => exact (by repeat (first | (with_reducible first | exact HB.out | apply below_alloc | apply pw_below_drewN | apply below_drew1) | exact HB.out))); (case aF => exact (fun _ _ => trivial)); (case aO => exact (by (with_reducible repeat (first | apply Kd.R_alloc | apply Kd.R_drewN | apply Kd.R_drew)); exact HO_7.out)); (case aS => exact (below_size (by repeat (first | (with_reducible first | exact HB.out | apply below_alloc | apply pw_below_drewN | apply below_drew1) | exact HB.out)))); (case aL => have := LMc94.out; omega); intro v186 w95 ho hb hg hat; rw [← Ny185.out] at ho; have n0_ := Aside0.mk (hb); have n1_ := Aside0.mk (ho); clear HB; clear HO_7; have HB := n0_; have HO187 := n1_; clear n0_ n1_; clear ho hb hg hat))
              go_roundg k2
              case measure => have := HK1.out; have := HK2.out; omega
              case rel => exact ⟨(y185), (wrap64 (x9_2 + 1)), (by first | rfl | (simp; done) | (simp [*]; done)), H', ⟨by have := HK1.out; have := HK2.out; omega⟩, ⟨by (with_reducible repeat (first | apply Kd.R_alloc | apply Kd.R_drewN | apply Kd.R_drew)); exact HO187.out⟩, ⟨by repeat (first | (with_reducible first | exact HB.out | apply below_alloc | apply pw_below_drewN | apply below_drew1) | exact HB.out)⟩⟩
             ·rw [if_neg c94] at H
              exact absurd H (by simp)
            ·rw [if_neg c93] at H
             have c93b0 : (x9_2 == a2) = false := beq_eq_false_iff_ne.mpr c93
             have c93b1 : (x9_2 != a2) = true := bne_iff_ne.mpr c93
             by_cases c96 : a1 = 3
             ·rw [if_pos c96] at H
              have c96b0 : (a1 == 3) = true := beq_iff_eq.mpr c96
              have c96b1 : (a1 != 3) = false := bne_eq_false_iff_eq.mpr c96
              clear c96
              by_cases c97 : x7_2.length < 8796093022208
              ·rw [if_pos c97] at H
               have LMc97 := Aside0.mk c97
               clear c97
               obtain ⟨y188, hy188⟩ : ∃ y_ : List (S64), y_ = (x7_2 ++ [(⟨x8_1, x9_2⟩ : S64)]) := ⟨_, rfl⟩
               replace H : (spec_neWhole.l1 k2 a0 a1 a2 y188 x8_1 (wrap64 (x9_2 + 1))) = some r := by first | (rw [hy188]; with_reducible exact H) | (have H2_ := (Option.bind_some _ _).symm.trans H; rw [hy188]; with_reducible exact H2_) | (have H2_ := (Option.bind_some _ _).symm.trans H; with_reducible exact H2_) | with_reducible exact H | (rw [hy188]; exact H) | exact H
               have Ny188 := Aside0.mk hy188
               clear hy188
               have H' := Aside0.mk H
               clear H
               go_wp2_with (first | ((with_reducible refine gate_builtin (b := .append) (xs := #[.tmp 71, .tmp 75]) rfl ?_); at_builtin; refine Kd.R_append k64 (w0 := w) w.heap.size rfl (.tmp 71) (.tmp 75) 22 64 (.agg #[(.int .i64 0), (.int .i64 0)]) 16 rfl Try.underlying22 info64 rfl (by decide) (by omega) u7 x7_2 (⟨x8_1, x9_2⟩ : S64) [.int .i64 x8_1, .int .i64 x9_2] (fun _ => True) (fun _ => False) rfl rfl ?aP (fun _ hk => hk.elim) ?aF ?aO ?aB ?aS ?aL ?_; (case aP => exact k64_mkM _ _ _ (⟨x8_1, x9_2⟩ : S64)); (case aB => exact (by repeat (first | (with_reducible first | exact HB.out | apply below_alloc | apply pw_below_drewN | apply below_drew1) | exact HB.out))); (case aF => exact (fun _ _ => trivial)); (case aO => exact (by (with_reducible repeat (first | apply Kd.R_alloc | apply Kd.R_drewN | apply Kd.R_drew)); exact HO_7.out)); (case aS => exact (below_size (by repeat (first | (with_reducible first | exact HB.out | apply below_alloc | apply pw_below_drewN | apply below_drew1) | exact HB.out)))); (case aL => have := LMc97.out; omega); intro v189 w98 ho hb hg hat; rw [← Ny188.out] at ho; have n0_ := Aside0.mk (hb); have n1_ := Aside0.mk (ho); clear HB; clear HO_7; have HB := n0_; have HO190 := n1_; clear n0_ n1_; clear ho hb hg hat))
               go_roundg k2
               case measure => have := HK1.out; have := HK2.out; omega
               case rel => exact ⟨(y188), (wrap64 (x9_2 + 1)), (by first | rfl | (simp; done) | (simp [*]; done)), H', ⟨by have := HK1.out; have := HK2.out; omega⟩, ⟨by (with_reducible repeat (first | apply Kd.R_alloc | apply Kd.R_drewN | apply Kd.R_drew)); exact HO190.out⟩, ⟨by repeat (first | (with_reducible first | exact HB.out | apply below_alloc | apply pw_below_drewN | apply below_drew1) | exact HB.out)⟩⟩
              ·rw [if_neg c97] at H
               exact absurd H (by simp)
             ·rw [if_neg c96] at H
              have c96b0 : (a1 == 3) = false := beq_eq_false_iff_ne.mpr c96
              have c96b1 : (a1 != 3) = true := bne_iff_ne.mpr c96
              have H' := Aside0.mk H
              clear H
              go_wp2
              go_roundg k2
              case measure => have := HK1.out; have := HK2.out; omega
              case rel => exact ⟨(x7_2), (wrap64 (x9_2 + 1)), (by first | rfl | (simp; done) | (simp [*]; done)), H', ⟨by have := HK1.out; have := HK2.out; omega⟩, ⟨by (with_reducible repeat (first | apply Kd.R_alloc | apply Kd.R_drewN | apply Kd.R_drew)); exact HO_7.out⟩, ⟨by repeat (first | (with_reducible first | exact HB.out | apply below_alloc | apply pw_below_drewN | apply below_drew1) | exact HB.out)⟩⟩
           ·rw [if_neg c92] at H
            have c92b0 : (a1 == 2) = false := beq_eq_false_iff_ne.mpr c92
            have c92b1 : (a1 != 2) = true := bne_iff_ne.mpr c92
            by_cases c99 : a1 = 3
            ·rw [if_pos c99] at H
             have c99b0 : (a1 == 3) = true := beq_iff_eq.mpr c99
             have c99b1 : (a1 != 3) = false := bne_eq_false_iff_eq.mpr c99
             clear c99
             by_cases c100 : x7_2.length < 8796093022208
             ·rw [if_pos c100] at H
              have LMc100 := Aside0.mk c100
              clear c100
              obtain ⟨y191, hy191⟩ : ∃ y_ : List (S64), y_ = (x7_2 ++ [(⟨x8_1, x9_2⟩ : S64)]) := ⟨_, rfl⟩
              replace H : (spec_neWhole.l1 k2 a0 a1 a2 y191 x8_1 (wrap64 (x9_2 + 1))) = some r := by first | (rw [hy191]; with_reducible exact H) | (have H2_ := (Option.bind_some _ _).symm.trans H; rw [hy191]; with_reducible exact H2_) | (have H2_ := (Option.bind_some _ _).symm.trans H; with_reducible exact H2_) | with_reducible exact H | (rw [hy191]; exact H) | exact H
              have Ny191 := Aside0.mk hy191
              clear hy191
              have H' := Aside0.mk H
              clear H
              go_wp2_with (first | ((with_reducible refine gate_builtin (b := .append) (xs := #[.tmp 71, .tmp 75]) rfl ?_); at_builtin; refine Kd.R_append k64 (w0 := w) w.heap.size rfl (.tmp 71) (.tmp 75) 22 64 (.agg #[(.int .i64 0), (.int .i64 0)]) 16 rfl Try.underlying22 info64 rfl (by decide) (by omega) u7 x7_2 (⟨x8_1, x9_2⟩ : S64) [.int .i64 x8_1, .int .i64 x9_2] (fun _ => True) (fun _ => False) rfl rfl ?aP (fun _ hk => hk.elim) ?aF ?aO ?aB ?aS ?aL ?_; (case aP => exact k64_mkM _ _ _ (⟨x8_1, x9_2⟩ : S64)); (case aB => exact (by repeat (first | (with_reducible first | exact HB.out | apply below_alloc | apply pw_below_drewN | apply below_drew1) | exact HB.out))); (case aF => exact (fun _ _ => trivial)); (case aO => exact (by (with_reducible repeat (first | apply Kd.R_alloc | apply Kd.R_drewN | apply Kd.R_drew)); exact HO_7.out)); (case aS => exact (below_size (by repeat (first | (with_reducible first | exact HB.out | apply below_alloc | apply pw_below_drewN | apply below_drew1) | exact HB.out)))); (case aL => have := LMc100.out; omega); intro v192 w101 ho hb hg hat; rw [← Ny191.out] at ho; have n0_ := Aside0.mk (hb); have n1_ := Aside0.mk (ho); clear HB; clear HO_7; have HB := n0_; have HO193 := n1_; clear n0_ n1_; clear ho hb hg hat))
              go_roundg k2
              case measure => have := HK1.out; have := HK2.out; omega
              case rel => exact ⟨(y191), (wrap64 (x9_2 + 1)), (by first | rfl | (simp; done) | (simp [*]; done)), H', ⟨by have := HK1.out; have := HK2.out; omega⟩, ⟨by (with_reducible repeat (first | apply Kd.R_alloc | apply Kd.R_drewN | apply Kd.R_drew)); exact HO193.out⟩, ⟨by repeat (first | (with_reducible first | exact HB.out | apply below_alloc | apply pw_below_drewN | apply below_drew1) | exact HB.out)⟩⟩
             ·rw [if_neg c100] at H
              exact absurd H (by simp)
            ·rw [if_neg c99] at H
             have c99b0 : (a1 == 3) = false := beq_eq_false_iff_ne.mpr c99
             have c99b1 : (a1 != 3) = true := bne_iff_ne.mpr c99
             have H' := Aside0.mk H
             clear H
             go_wp2
             go_roundg k2
             case measure => have := HK1.out; have := HK2.out; omega
             case rel => exact ⟨(x7_2), (wrap64 (x9_2 + 1)), (by first | rfl | (simp; done) | (simp [*]; done)), H', ⟨by have := HK1.out; have := HK2.out; omega⟩, ⟨by (with_reducible repeat (first | apply Kd.R_alloc | apply Kd.R_drewN | apply Kd.R_drew)); exact HO_7.out⟩, ⟨by repeat (first | (with_reducible first | exact HB.out | apply below_alloc | apply pw_below_drewN | apply below_drew1) | exact HB.out)⟩⟩
       ·rw [if_neg c6] at H
        have c6b0 : (x8_1 == 0) = false := beq_eq_false_iff_ne.mpr c6
        have c6b1 : (x8_1 != 0) = true := bne_iff_ne.mpr c6
        by_cases c102 : x8_1 = a2
        ·rw [if_pos c102] at H
         have c102b0 : (x8_1 == a2) = true := beq_iff_eq.mpr c102
         have c102b1 : (x8_1 != a2) = false := bne_eq_false_iff_eq.mpr c102
         clear c102
         by_cases c103 : a1 = 0
         ·rw [if_pos c103] at H
          have c103b0 : (a1 == 0) = true := beq_iff_eq.mpr c103
          have c103b1 : (a1 != 0) = false := bne_eq_false_iff_eq.mpr c103
          clear c103
          by_cases c104 : x9_2 = (wrap64 (x8_1 + 1))
          ·rw [if_pos c104] at H
           have c104b0 : (x9_2 == (wrap64 (x8_1 + 1))) = true := beq_iff_eq.mpr c104
           have c104b1 : (x9_2 != (wrap64 (x8_1 + 1))) = false := bne_eq_false_iff_eq.mpr c104
           clear c104
           by_cases c105 : x7_2.length < 8796093022208
           ·rw [if_pos c105] at H
            have LMc105 := Aside0.mk c105
            clear c105
            obtain ⟨y194, hy194⟩ : ∃ y_ : List (S64), y_ = (x7_2 ++ [(⟨x8_1, x9_2⟩ : S64)]) := ⟨_, rfl⟩
            replace H : (spec_neWhole.l1 k2 a0 a1 a2 y194 x8_1 (wrap64 (x9_2 + 1))) = some r := by first | (rw [hy194]; with_reducible exact H) | (have H2_ := (Option.bind_some _ _).symm.trans H; rw [hy194]; with_reducible exact H2_) | (have H2_ := (Option.bind_some _ _).symm.trans H; with_reducible exact H2_) | with_reducible exact H | (rw [hy194]; exact H) | exact H
            have Ny194 := Aside0.mk hy194
            clear hy194
            have H' := Aside0.mk H
            clear H
            go_wp2_with (first | ((with_reducible refine gate_builtin (b := .append) (xs := #[.tmp 71, .tmp 75]) rfl ?_); at_builtin; refine Kd.R_append k64 (w0 := w) w.heap.size rfl (.tmp 71) (.tmp 75) 22 64 (.agg #[(.int .i64 0), (.int .i64 0)]) 16 rfl Try.underlying22 info64 rfl (by decide) (by omega) u7 x7_2 (⟨x8_1, x9_2⟩ : S64) [.int .i64 x8_1, .int .i64 x9_2] (fun _ => True) (fun _ => False) rfl rfl ?aP (fun _ hk => hk.elim) ?aF ?aO ?aB ?aS ?aL ?_; (case aP => exact k64_mkM _ _ _ (⟨x8_1, x9_2⟩ : S64)); (case aB => exact (by repeat (first | (with_reducible first | exact HB.out | apply below_alloc | apply pw_below_drewN | apply below_drew1) | exact HB.out))); (case aF => exact (fun _ _ => trivial)); (case aO => exact (by (with_reducible repeat (first | apply Kd.R_alloc | apply Kd.R_drewN | apply Kd.R_drew)); exact HO_7.out)); (case aS => exact (below_size (by repeat (first | (with_reducible first | exact HB.out | apply below_alloc | apply pw_below_drewN | apply below_drew1) | exact HB.out)))); (case aL => have := LMc105.out; omega); intro v195 w106 ho hb hg hat; rw [← Ny194.out] at ho; have n0_ := Aside0.mk (hb); have n1_ := Aside0.mk (ho); clear HB; clear HO_7; have HB := n0_; have HO196 := n1_; clear n0_ n1_; clear ho hb hg hat))
            go_roundg k2
            case measure => have := HK1.out; have := HK2.out; omega
            case rel => exact ⟨(y194), (wrap64 (x9_2 + 1)), (by first | rfl | (simp; done) | (simp [*]; done)), H', ⟨by have := HK1.out; have := HK2.out; omega⟩, ⟨by (with_reducible repeat (first | apply Kd.R_alloc | apply Kd.R_drewN | apply Kd.R_drew)); exact HO196.out⟩, ⟨by repeat (first | (with_reducible first | exact HB.out | apply below_alloc | apply pw_below_drewN | apply below_drew1) | exact HB.out)⟩⟩
           ·rw [if_neg c105] at H
            exact absurd H (by simp)
          ·rw [if_neg c104] at H
           have c104b0 : (x9_2 == (wrap64 (x8_1 + 1))) = false := beq_eq_false_iff_ne.mpr c104
           have c104b1 : (x9_2 != (wrap64 (x8_1 + 1))) = true := bne_iff_ne.mpr c104
           by_cases c107 : a1 = 1
           ·rw [if_pos c107] at H
            have c107b0 : (a1 == 1) = true := beq_iff_eq.mpr c107
            have c107b1 : (a1 != 1) = false := bne_eq_false_iff_eq.mpr c107
            clear c107
            by_cases c108 : a1 = 2
            ·rw [if_pos c108] at H
             have c108b0 : (a1 == 2) = true := beq_iff_eq.mpr c108
             have c108b1 : (a1 != 2) = false := bne_eq_false_iff_eq.mpr c108
             clear c108
             by_cases c109 : x7_2.length < 8796093022208
             ·rw [if_pos c109] at H
              have LMc109 := Aside0.mk c109
              clear c109
              obtain ⟨y197, hy197⟩ : ∃ y_ : List (S64), y_ = (x7_2 ++ [(⟨x8_1, x9_2⟩ : S64)]) := ⟨_, rfl⟩
              replace H : (spec_neWhole.l1 k2 a0 a1 a2 y197 x8_1 (wrap64 (x9_2 + 1))) = some r := by first | (rw [hy197]; with_reducible exact H) | (have H2_ := (Option.bind_some _ _).symm.trans H; rw [hy197]; with_reducible exact H2_) | (have H2_ := (Option.bind_some _ _).symm.trans H; with_reducible exact H2_) | with_reducible exact H | (rw [hy197]; exact H) | exact H
              have Ny197 := Aside0.mk hy197
              clear hy197
              have H' := Aside0.mk H
              clear H
              go_wp2_with (first | ((with_reducible refine gate_builtin (b := .append) (xs := #[.tmp 71, .tmp 75]) rfl ?_); at_builtin; refine Kd.R_append k64 (w0 := w) w.heap.size rfl (.tmp 71) (.tmp 75) 22 64 (.agg #[(.int .i64 0), (.int .i64 0)]) 16 rfl Try.underlying22 info64 rfl (by decide) (by omega) u7 x7_2 (⟨x8_1, x9_2⟩ : S64) [.int .i64 x8_1, .int .i64 x9_2] (fun _ => True) (fun _ => False) rfl rfl ?aP (fun _ hk => hk.elim) ?aF ?aO ?aB ?aS ?aL ?_; (case aP => exact k64_mkM _ _ _ (⟨x8_1, x9_2⟩ : S64)); (case aB => exact (by repeat (first | (with_reducible first | exact HB.out | apply below_alloc | apply pw_below_drewN | apply below_drew1) | exact HB.out))); (case aF => exact (fun _ _ => trivial)); (case aO => exact (by (with_reducible repeat (first | apply Kd.R_alloc | apply Kd.R_drewN | apply Kd.R_drew)); exact HO_7.out)); (case aS => exact (below_size (by repeat (first | (with_reducible first | exact HB.out | apply below_alloc | apply pw_below_drewN | apply below_drew1) | exact HB.out)))); (case aL => have := LMc109.out; omega); intro v198 w110 ho hb hg hat; rw [← Ny197.out] at ho; have n0_ := Aside0.mk (hb); have n1_ := Aside0.mk (ho); clear HB; clear HO_7; have HB := n0_; have HO199 := n1_; clear n0_ n1_; clear ho hb hg hat))
              go_roundg k2
              case measure => have := HK1.out; have := HK2.out; omega
              case rel => exact ⟨(y197), (wrap64 (x9_2 + 1)), (by first | rfl | (simp; done) | (simp [*]; done)), H', ⟨by have := HK1.out; have := HK2.out; omega⟩, ⟨by (with_reducible repeat (first | apply Kd.R_alloc | apply Kd.R_drewN | apply Kd.R_drew)); exact HO199.out⟩, ⟨by repeat (first | (with_reducible first | exact HB.out | apply below_alloc | apply pw_below_drewN | apply below_drew1) | exact HB.out)⟩⟩
             ·rw [if_neg c109] at H
              exact absurd H (by simp)
            ·rw [if_neg c108] at H
             have c108b0 : (a1 == 2) = false := beq_eq_false_iff_ne.mpr c108
             have c108b1 : (a1 != 2) = true := bne_iff_ne.mpr c108
             by_cases c111 : a1 = 3
             ·rw [if_pos c111] at H
              have c111b0 : (a1 == 3) = true := beq_iff_eq.mpr c111
              have c111b1 : (a1 != 3) = false := bne_eq_false_iff_eq.mpr c111
              clear c111
              by_cases c112 : x7_2.length < 8796093022208
              ·rw [if_pos c112] at H
               have LMc112 := Aside0.mk c112
               clear c112
               obtain ⟨y200, hy200⟩ : ∃ y_ : List (S64), y_ = (x7_2 ++ [(⟨x8_1, x9_2⟩ : S64)]) := ⟨_, rfl⟩
               replace H : (spec_neWhole.l1 k2 a0 a1 a2 y200 x8_1 (wrap64 (x9_2 + 1))) = some r := by first | (rw [hy200]; with_reducible exact H) | (have H2_ := (Option.bind_some _ _).symm.trans H; rw [hy200]; with_reducible exact H2_) | (have H2_ := (Option.bind_some _ _).symm.trans H; with_reducible exact H2_) | with_reducible exact H | (rw [hy200]; exact H) | exact H
               have Ny200 := Aside0.mk hy200
               clear hy200
               have H' := Aside0.mk H
               clear H
               go_wp2_with (first | ((with_reducible refine gate_builtin (b := .append) (xs := #[.tmp 71, .tmp 75]) rfl ?_); at_builtin; refine Kd.R_append k64 (w0 := w) w.heap.size rfl (.tmp 71) (.tmp 75) 22 64 (.agg #[(.int .i64 0), (.int .i64 0)]) 16 rfl Try.underlying22 info64 rfl (by decide) (by omega) u7 x7_2 (⟨x8_1, x9_2⟩ : S64) [.int .i64 x8_1, .int .i64 x9_2] (fun _ => True) (fun _ => False) rfl rfl ?aP (fun _ hk => hk.elim) ?aF ?aO ?aB ?aS ?aL ?_; (case aP => exact k64_mkM _ _ _ (⟨x8_1, x9_2⟩ : S64)); (case aB => exact (by repeat (first | (with_reducible first | exact HB.out | apply below_alloc | apply pw_below_drewN | apply below_drew1) | exact HB.out))); (case aF => exact (fun _ _ => trivial)); (case aO => exact (by (with_reducible repeat (first | apply Kd.R_alloc | apply Kd.R_drewN | apply Kd.R_drew)); exact HO_7.out)); (case aS => exact (below_size (by repeat (first | (with_reducible first | exact HB.out | apply below_alloc | apply pw_below_drewN | apply below_drew1) | exact HB.out)))); (case aL => have := LMc112.out; omega); intro v201 w113 ho hb hg hat; rw [← Ny200.out] at ho; have n0_ := Aside0.mk (hb); have n1_ := Aside0.mk (ho); clear HB; clear HO_7; have HB := n0_; have HO202 := n1_; clear n0_ n1_; clear ho hb hg hat))
               go_roundg k2
               case measure => have := HK1.out; have := HK2.out; omega
               case rel => exact ⟨(y200), (wrap64 (x9_2 + 1)), (by first | rfl | (simp; done) | (simp [*]; done)), H', ⟨by have := HK1.out; have := HK2.out; omega⟩, ⟨by (with_reducible repeat (first | apply Kd.R_alloc | apply Kd.R_drewN | apply Kd.R_drew)); exact HO202.out⟩, ⟨by repeat (first | (with_reducible first | exact HB.out | apply below_alloc | apply pw_below_drewN | apply below_drew1) | exact HB.out)⟩⟩
              ·rw [if_neg c112] at H
               exact absurd H (by simp)
             ·rw [if_neg c111] at H
              have c111b0 : (a1 == 3) = false := beq_eq_false_iff_ne.mpr c111
              have c111b1 : (a1 != 3) = true := bne_iff_ne.mpr c111
              have H' := Aside0.mk H
              clear H
              go_wp2
              go_roundg k2
              case measure => have := HK1.out; have := HK2.out; omega
              case rel => exact ⟨(x7_2), (wrap64 (x9_2 + 1)), (by first | rfl | (simp; done) | (simp [*]; done)), H', ⟨by have := HK1.out; have := HK2.out; omega⟩, ⟨by (with_reducible repeat (first | apply Kd.R_alloc | apply Kd.R_drewN | apply Kd.R_drew)); exact HO_7.out⟩, ⟨by repeat (first | (with_reducible first | exact HB.out | apply below_alloc | apply pw_below_drewN | apply below_drew1) | exact HB.out)⟩⟩
           ·rw [if_neg c107] at H
            have c107b0 : (a1 == 1) = false := beq_eq_false_iff_ne.mpr c107
            have c107b1 : (a1 != 1) = true := bne_iff_ne.mpr c107
            by_cases c114 : a1 = 2
            ·rw [if_pos c114] at H
             have c114b0 : (a1 == 2) = true := beq_iff_eq.mpr c114
             have c114b1 : (a1 != 2) = false := bne_eq_false_iff_eq.mpr c114
             clear c114
             by_cases c115 : x7_2.length < 8796093022208
             ·rw [if_pos c115] at H
              have LMc115 := Aside0.mk c115
              clear c115
              obtain ⟨y203, hy203⟩ : ∃ y_ : List (S64), y_ = (x7_2 ++ [(⟨x8_1, x9_2⟩ : S64)]) := ⟨_, rfl⟩
              replace H : (spec_neWhole.l1 k2 a0 a1 a2 y203 x8_1 (wrap64 (x9_2 + 1))) = some r := by first | (rw [hy203]; with_reducible exact H) | (have H2_ := (Option.bind_some _ _).symm.trans H; rw [hy203]; with_reducible exact H2_) | (have H2_ := (Option.bind_some _ _).symm.trans H; with_reducible exact H2_) | with_reducible exact H | (rw [hy203]; exact H) | exact H
              have Ny203 := Aside0.mk hy203
              clear hy203
              have H' := Aside0.mk H
              clear H
              go_wp2_with (first | ((with_reducible refine gate_builtin (b := .append) (xs := #[.tmp 71, .tmp 75]) rfl ?_); at_builtin; refine Kd.R_append k64 (w0 := w) w.heap.size rfl (.tmp 71) (.tmp 75) 22 64 (.agg #[(.int .i64 0), (.int .i64 0)]) 16 rfl Try.underlying22 info64 rfl (by decide) (by omega) u7 x7_2 (⟨x8_1, x9_2⟩ : S64) [.int .i64 x8_1, .int .i64 x9_2] (fun _ => True) (fun _ => False) rfl rfl ?aP (fun _ hk => hk.elim) ?aF ?aO ?aB ?aS ?aL ?_; (case aP => exact k64_mkM _ _ _ (⟨x8_1, x9_2⟩ : S64)); (case aB => exact (by repeat (first | (with_reducible first | exact HB.out | apply below_alloc | apply pw_below_drewN | apply below_drew1) | exact HB.out))); (case aF => exact (fun _ _ => trivial)); (case aO => exact (by (with_reducible repeat (first | apply Kd.R_alloc | apply Kd.R_drewN | apply Kd.R_drew)); exact HO_7.out)); (case aS => exact (below_size (by repeat (first | (with_reducible first | exact HB.out | apply below_alloc | apply pw_below_drewN | apply below_drew1) | exact HB.out)))); (case aL => have := LMc115.out; omega); intro v204 w116 ho hb hg hat; rw [← Ny203.out] at ho; have n0_ := Aside0.mk (hb); have n1_ := Aside0.mk (ho); clear HB; clear HO_7; have HB := n0_; have HO205 := n1_; clear n0_ n1_; clear ho hb hg hat))
              go_roundg k2
              case measure => have := HK1.out; have := HK2.out; omega
              case rel => exact ⟨(y203), (wrap64 (x9_2 + 1)), (by first | rfl | (simp; done) | (simp [*]; done)), H', ⟨by have := HK1.out; have := HK2.out; omega⟩, ⟨by (with_reducible repeat (first | apply Kd.R_alloc | apply Kd.R_drewN | apply Kd.R_drew)); exact HO205.out⟩, ⟨by repeat (first | (with_reducible first | exact HB.out | apply below_alloc | apply pw_below_drewN | apply below_drew1) | exact HB.out)⟩⟩
             ·rw [if_neg c115] at H
              exact absurd H (by simp)
            ·rw [if_neg c114] at H
             have c114b0 : (a1 == 2) = false := beq_eq_false_iff_ne.mpr c114
             have c114b1 : (a1 != 2) = true := bne_iff_ne.mpr c114
             by_cases c117 : a1 = 3
             ·rw [if_pos c117] at H
              have c117b0 : (a1 == 3) = true := beq_iff_eq.mpr c117
              have c117b1 : (a1 != 3) = false := bne_eq_false_iff_eq.mpr c117
              clear c117
              by_cases c118 : x7_2.length < 8796093022208
              ·rw [if_pos c118] at H
               have LMc118 := Aside0.mk c118
               clear c118
               obtain ⟨y206, hy206⟩ : ∃ y_ : List (S64), y_ = (x7_2 ++ [(⟨x8_1, x9_2⟩ : S64)]) := ⟨_, rfl⟩
               replace H : (spec_neWhole.l1 k2 a0 a1 a2 y206 x8_1 (wrap64 (x9_2 + 1))) = some r := by first | (rw [hy206]; with_reducible exact H) | (have H2_ := (Option.bind_some _ _).symm.trans H; rw [hy206]; with_reducible exact H2_) | (have H2_ := (Option.bind_some _ _).symm.trans H; with_reducible exact H2_) | with_reducible exact H | (rw [hy206]; exact H) | exact H
               have Ny206 := Aside0.mk hy206
               clear hy206
               have H' := Aside0.mk H
               clear H
               go_wp2_with (first | ((with_reducible refine gate_builtin (b := .append) (xs := #[.tmp 71, .tmp 75]) rfl ?_); at_builtin; refine Kd.R_append k64 (w0 := w) w.heap.size rfl (.tmp 71) (.tmp 75) 22 64 (.agg #[(.int .i64 0), (.int .i64 0)]) 16 rfl Try.underlying22 info64 rfl (by decide) (by omega) u7 x7_2 (⟨x8_1, x9_2⟩ : S64) [.int .i64 x8_1, .int .i64 x9_2] (fun _ => True) (fun _ => False) rfl rfl ?aP (fun _ hk => hk.elim) ?aF ?aO ?aB ?aS ?aL ?_; (case aP => exact k64_mkM _ _ _ (⟨x8_1, x9_2⟩ : S64)); (case aB => exact (by repeat (first | (with_reducible first | exact HB.out | apply below_alloc | apply pw_below_drewN | apply below_drew1) | exact HB.out))); (case aF => exact (fun _ _ => trivial)); (case aO => exact (by (with_reducible repeat (first | apply Kd.R_alloc | apply Kd.R_drewN | apply Kd.R_drew)); exact HO_7.out)); (case aS => exact (below_size (by repeat (first | (with_reducible first | exact HB.out | apply below_alloc | apply pw_below_drewN | apply below_drew1) | exact HB.out)))); (case aL => have := LMc118.out; omega); intro v207 w119 ho hb hg hat; rw [← Ny206.out] at ho; have n0_ := Aside0.mk (hb); have n1_ := Aside0.mk (ho); clear HB; clear HO_7; have HB := n0_; have HO208 := n1_; clear n0_ n1_; clear ho hb hg hat))
               go_roundg k2
               case measure => have := HK1.out; have := HK2.out; omega
               case rel => exact ⟨(y206), (wrap64 (x9_2 + 1)), (by first | rfl | (simp; done) | (simp [*]; done)), H', ⟨by have := HK1.out; have := HK2.out; omega⟩, ⟨by (with_reducible repeat (first | apply Kd.R_alloc | apply Kd.R_drewN | apply Kd.R_drew)); exact HO208.out⟩, ⟨by repeat (first | (with_reducible first | exact HB.out | apply below_alloc | apply pw_below_drewN | apply below_drew1) | exact HB.out)⟩⟩
              ·rw [if_neg c118] at H
               exact absurd H (by simp)
             ·rw [if_neg c117] at H
              have c117b0 : (a1 == 3) = false := beq_eq_false_iff_ne.mpr c117
              have c117b1 : (a1 != 3) = true := bne_iff_ne.mpr c117
              have H' := Aside0.mk H
              clear H
              go_wp2
              go_roundg k2
              case measure => have := HK1.out; have := HK2.out; omega
              case rel => exact ⟨(x7_2), (wrap64 (x9_2 + 1)), (by first | rfl | (simp; done) | (simp [*]; done)), H', ⟨by have := HK1.out; have := HK2.out; omega⟩, ⟨by (with_reducible repeat (first | apply Kd.R_alloc | apply Kd.R_drewN | apply Kd.R_drew)); exact HO_7.out⟩, ⟨by repeat (first | (with_reducible first | exact HB.out | apply below_alloc | apply pw_below_drewN | apply below_drew1) | exact HB.out)⟩⟩
         ·rw [if_neg c103] at H
          have c103b0 : (a1 == 0) = false := beq_eq_false_iff_ne.mpr c103
          have c103b1 : (a1 != 0) = true := bne_iff_ne.mpr c103
          by_cases c120 : a1 = 1
          ·rw [if_pos c120] at H
           have c120b0 : (a1 == 1) = true := beq_iff_eq.mpr c120
           have c120b1 : (a1 != 1) = false := bne_eq_false_iff_eq.mpr c120
           clear c120
           by_cases c121 : x9_2 = (wrap64 (x8_1 + 1))
           ·rw [if_pos c121] at H
            have c121b0 : (x9_2 == (wrap64 (x8_1 + 1))) = true := beq_iff_eq.mpr c121
            have c121b1 : (x9_2 != (wrap64 (x8_1 + 1))) = false := bne_eq_false_iff_eq.mpr c121
            clear c121
            by_cases c122 : x7_2.length < 8796093022208
            ·rw [if_pos c122] at H
             have LMc122 := Aside0.mk c122
             clear c122
             obtain ⟨y209, hy209⟩ : ∃ y_ : List (S64), y_ = (x7_2 ++ [(⟨x8_1, x9_2⟩ : S64)]) := ⟨_, rfl⟩
             replace H : (spec_neWhole.l1 k2 a0 a1 a2 y209 x8_1 (wrap64 (x9_2 + 1))) = some r := by first | (rw [hy209]; with_reducible exact H) | (have H2_ := (Option.bind_some _ _).symm.trans H; rw [hy209]; with_reducible exact H2_) | (have H2_ := (Option.bind_some _ _).symm.trans H; with_reducible exact H2_) | with_reducible exact H | (rw [hy209]; exact H) | exact H
             have Ny209 := Aside0.mk hy209
             clear hy209
             have H' := Aside0.mk H
             clear H
             go_wp2_with (first | ((with_reducible refine gate_builtin (b := .append) (xs := #[.tmp 71, .tmp 75]) rfl ?_); at_builtin; refine Kd.R_append k64 (w0 := w) w.heap.size rfl (.tmp 71) (.tmp 75) 22 64 (.agg #[(.int .i64 0), (.int .i64 0)]) 16 rfl Try.underlying22 info64 rfl (by decide) (by omega) u7 x7_2 (⟨x8_1, x9_2⟩ : S64) [.int .i64 x8_1, .int .i64 x9_2] (fun _ => True) (fun _ => False) rfl rfl ?aP (fun _ hk => hk.elim) ?aF ?aO ?aB ?aS ?aL ?_; (case aP => exact k64_mkM _ _ _ (⟨x8_1, x9_2⟩ : S64)); (case aB => exact (by repeat (first | (with_reducible first | exact HB.out | apply below_alloc | apply pw_below_drewN | apply below_drew1) | exact HB.out))); (case aF => exact (fun _ _ => trivial)); (case aO => exact (by (with_reducible repeat (first | apply Kd.R_alloc | apply Kd.R_drewN | apply Kd.R_drew)); exact HO_7.out)); (case aS => exact (below_size (by repeat (first | (with_reducible first | exact HB.out | apply below_alloc | apply pw_below_drewN | apply below_drew1) | exact HB.out)))); (case aL => have := LMc122.out; omega); intro v210 w123 ho hb hg hat; rw [← Ny209.out] at ho; have n0_ := Aside0.mk (hb); have n1_ := Aside0.mk (ho); clear HB; clear HO_7; have HB := n0_; have HO211 := n1_; clear n0_ n1_; clear ho hb hg hat))
             go_roundg k2
             case measure => have := HK1.out; have := HK2.out; omega
             case rel => exact ⟨(y209), (wrap64 (x9_2 + 1)), (by first | rfl | (simp; done) | (simp [*]; done)), H', ⟨by have := HK1.out; have := HK2.out; omega⟩, ⟨by (with_reducible repeat (first | apply Kd.R_alloc | apply Kd.R_drewN | apply Kd.R_drew)); exact HO211.out⟩, ⟨by repeat (first | (with_reducible first | exact HB.out | apply below_alloc | apply pw_below_drewN | apply below_drew1) | exact HB.out)⟩⟩
            ·rw [if_neg c122] at H
             exact absurd H (by simp)
           ·rw [if_neg c121] at H
            have c121b0 : (x9_2 == (wrap64 (x8_1 + 1))) = false := beq_eq_false_iff_ne.mpr c121
            have c121b1 : (x9_2 != (wrap64 (x8_1 + 1))) = true := bne_iff_ne.mpr c121
            by_cases c124 : a1 = 2
            ·rw [if_pos c124] at H
             have c124b0 : (a1 == 2) = true := beq_iff_eq.mpr c124
             have c124b1 : (a1 != 2) = false := bne_eq_false_iff_eq.mpr c124
             clear c124
             by_cases c125 : x7_2.length < 8796093022208
             ·rw [if_pos c125] at H
              have LMc125 := Aside0.mk c125
              clear c125
              obtain ⟨y212, hy212⟩ : ∃ y_ : List (S64), y_ = (x7_2 ++ [(⟨x8_1, x9_2⟩ : S64)]) := ⟨_, rfl⟩
              replace H : (spec_neWhole.l1 k2 a0 a1 a2 y212 x8_1 (wrap64 (x9_2 + 1))) = some r := by first | (rw [hy212]; with_reducible exact H) | (have H2_ := (Option.bind_some _ _).symm.trans H; rw [hy212]; with_reducible exact H2_) | (have H2_ := (Option.bind_some _ _).symm.trans H; with_reducible exact H2_) | with_reducible exact H | (rw [hy212]; exact H) | exact H
              have Ny212 := Aside0.mk hy212
              clear hy212
              have H' := Aside0.mk H
              clear H
              go_wp2_with (first | ((with_reducible refine gate_builtin (b := .append) (xs := #[.tmp 71, .tmp 75]) rfl ?_); at_builtin; refine Kd.R_append k64 (w0 := w) w.heap.size rfl (.tmp 71) (.tmp 75) 22 64 (.agg #[(.int .i64 0), (.int .i64 0)]) 16 rfl Try.underlying22 info64 rfl (by decide) (by omega) u7 x7_2 (⟨x8_1, x9_2⟩ : S64) [.int .i64 x8_1, .int .i64 x9_2] (fun _ => True) (fun _ => False) rfl rfl ?aP (fun _ hk => hk.elim) ?aF ?aO ?aB ?aS ?aL ?_; (case aP => exact k64_mkM _ _ _ (⟨x8_1, x9_2⟩ : S64)); (case aB => exact (by repeat (first | (with_reducible first | exact HB.out | apply below_alloc | apply pw_below_drewN | apply below_drew1) | exact HB.out))); (case aF => exact (fun _ _ => trivial)); (case aO => exact (by (with_reducible repeat (first | apply Kd.R_alloc | apply Kd.R_drewN | apply Kd.R_drew)); exact HO_7.out)); (case aS => exact (below_size (by repeat (first | (with_reducible first | exact HB.out | apply below_alloc | apply pw_below_drewN | apply below_drew1) | exact HB.out)))); (case aL => have := LMc125.out; omega); intro v213 w126 ho hb hg hat; rw [← Ny212.out] at ho; have n0_ := Aside0.mk (hb); have n1_ := Aside0.mk (ho); clear HB; clear HO_7; have HB := n0_; have HO214 := n1_; clear n0_ n1_; clear ho hb hg hat))
              go_roundg k2
              case measure => have := HK1.out; have := HK2.out; omega
              case rel => exact ⟨(y212), (wrap64 (x9_2 + 1)), (by first | rfl | (simp; done) | (simp [*]; done)), H', ⟨by have := HK1.out; have := HK2.out; omega⟩, ⟨by (with_reducible repeat (first | apply Kd.R_alloc | apply Kd.R_drewN | apply Kd.R_drew)); exact HO214.out⟩, ⟨by repeat (first | (with_reducible first | exact HB.out | apply below_alloc | apply pw_below_drewN | apply below_drew1) | exact HB.out)⟩⟩
             ·rw [if_neg c125] at H
              exact absurd H (by simp)
            ·rw [if_neg c124] at H
             have c124b0 : (a1 == 2) = false := beq_eq_false_iff_ne.mpr c124
             have c124b1 : (a1 != 2) = true := bne_iff_ne.mpr c124
             by_cases c127 : a1 = 3
             ·rw [if_pos c127] at H
              have c127b0 : (a1 == 3) = true := beq_iff_eq.mpr c127
              have c127b1 : (a1 != 3) = false := bne_eq_false_iff_eq.mpr c127
              clear c127
              by_cases c128 : x7_2.length < 8796093022208
              ·rw [if_pos c128] at H
               have LMc128 := Aside0.mk c128
               clear c128
               obtain ⟨y215, hy215⟩ : ∃ y_ : List (S64), y_ = (x7_2 ++ [(⟨x8_1, x9_2⟩ : S64)]) := ⟨_, rfl⟩
               replace H : (spec_neWhole.l1 k2 a0 a1 a2 y215 x8_1 (wrap64 (x9_2 + 1))) = some r := by first | (rw [hy215]; with_reducible exact H) | (have H2_ := (Option.bind_some _ _).symm.trans H; rw [hy215]; with_reducible exact H2_) | (have H2_ := (Option.bind_some _ _).symm.trans H; with_reducible exact H2_) | with_reducible exact H | (rw [hy215]; exact H) | exact H
               have Ny215 := Aside0.mk hy215
               clear hy215
               have H' := Aside0.mk H
               clear H
               go_wp2_with (first | ((with_reducible refine gate_builtin (b := .append) (xs := #[.tmp 71, .tmp 75]) rfl ?_); at_builtin; refine Kd.R_append k64 (w0 := w) w.heap.size rfl (.tmp 71) (.tmp 75) 22 64 (.agg #[(.int .i64 0), (.int .i64 0)]) 16 rfl Try.underlying22 info64 rfl (by decide) (by omega) u7 x7_2 (⟨x8_1, x9_2⟩ : S64) [.int .i64 x8_1, .int .i64 x9_2] (fun _ => True) (fun _ => False) rfl rfl ?aP (fun _ hk => hk.elim) ?aF ?aO ?aB ?aS ?aL ?_; (case aP => exact k64_mkM _ _ _ (⟨x8_1, x9_2⟩ : S64)); (case aB => exact (by repeat (first | (with_reducible first | exact HB.out | apply below_alloc | apply pw_below_drewN | apply below_drew1) | exact HB.out))); (case aF => exact (fun _ _ => trivial)); (case aO => exact (by (with_reducible repeat (first | apply Kd.R_alloc | apply Kd.R_drewN | apply Kd.R_drew)); exact HO_7.out)); (case aS => exact (below_size (by repeat (first | (with_reducible first | exact HB.out | apply below_alloc | apply pw_below_drewN | apply below_drew1) | exact HB.out)))); (case aL => have := LMc128.out; omega); intro v216 w129 ho hb hg hat; rw [← Ny215.out] at ho; have n0_ := Aside0.mk (hb); have n1_ := Aside0.mk (ho); clear HB; clear HO_7; have HB := n0_; have HO217 := n1_; clear n0_ n1_; clear ho hb hg hat))
               go_roundg k2
               case measure => have := HK1.out; have := HK2.out; omega
               case rel => exact ⟨(y215), (wrap64 (x9_2 + 1)), (by first | rfl | (simp; done) | (simp [*]; done)), H', ⟨by have := HK1.out; have := HK2.out; omega⟩, ⟨by (with_reducible repeat (first | apply Kd.R_alloc | apply Kd.R_drewN | apply Kd.R_drew)); exact HO217.out⟩, ⟨by repeat (first | (with_reducible first | exact HB.out | apply below_alloc | apply pw_below_drewN | apply below_drew1) | exact HB.out)⟩⟩
              ·rw [if_neg c128] at H
               exact absurd H (by simp)
             ·rw [if_neg c127] at H
              have c127b0 : (a1 == 3) = false := beq_eq_false_iff_ne.mpr c127
              have c127b1 : (a1 != 3) = true := bne_iff_ne.mpr c127
              have H' := Aside0.mk H
              clear H
              go_wp2
              go_roundg k2
              case measure => have := HK1.out; have := HK2.out; omega
              case rel => exact ⟨(x7_2), (wrap64 (x9_2 + 1)), (by first | rfl | (simp; done) | (simp [*]; done)), H', ⟨by have := HK1.out; have := HK2.out; omega⟩, ⟨by (with_reducible repeat (first | apply Kd.R_alloc | apply Kd.R_drewN | apply Kd.R_drew)); exact HO_7.out⟩, ⟨by repeat (first | (with_reducible first | exact HB.out | apply below_alloc | apply pw_below_drewN | apply below_drew1) | exact HB.out)⟩⟩
          ·rw [if_neg c120] at H
           have c120b0 : (a1 == 1) = false := beq_eq_false_iff_ne.mpr c120
           have c120b1 : (a1 != 1) = true := bne_iff_ne.mpr c120
           by_cases c130 : a1 = 2
           ·rw [if_pos c130] at H
            have c130b0 : (a1 == 2) = true := beq_iff_eq.mpr c130
            have c130b1 : (a1 != 2) = false := bne_eq_false_iff_eq.mpr c130
            clear c130
            by_cases c131 : x7_2.length < 8796093022208
            ·rw [if_pos c131] at H
             have LMc131 := Aside0.mk c131
             clear c131
             obtain ⟨y218, hy218⟩ : ∃ y_ : List (S64), y_ = (x7_2 ++ [(⟨x8_1, x9_2⟩ : S64)]) := ⟨_, rfl⟩
             replace H : (spec_neWhole.l1 k2 a0 a1 a2 y218 x8_1 (wrap64 (x9_2 + 1))) = some r := by first | (rw [hy218]; with_reducible exact H) | (have H2_ := (Option.bind_some _ _).symm.trans H; rw [hy218]; with_reducible exact H2_) | (have H2_ := (Option.bind_some _ _).symm.trans H; with_reducible exact H2_) | with_reducible exact H | (rw [hy218]; exact H) | exact H
             have Ny218 := Aside0.mk hy218
             clear hy218
             have H' := Aside0.mk H
             clear H
             go_wp2_with (first | ((with_reducible refine gate_builtin (b := .append) (xs := #[.tmp 71, .tmp 75]) rfl ?_); at_builtin; refine Kd.R_append k64 (w0 := w) w.heap.size rfl (.tmp 71) (.tmp 75) 22 64 (.agg #[(.int .i64 0), (.int .i64 0)]) 16 rfl Try.underlying22 info64 rfl (by decide) (by omega) u7 x7_2 (⟨x8_1, x9_2⟩ : S64) [.int .i64 x8_1, .int .i64 x9_2] (fun _ => True) (fun _ => False) rfl rfl ?aP (fun _ hk => hk.elim) ?aF ?aO ?aB ?aS ?aL ?_; (case aP => exact k64_mkM _ _ _ (⟨x8_1, x9_2⟩ : S64)); (case aB => exact (by repeat (first | (with_reducible first | exact HB.out | apply below_alloc | apply pw_below_drewN | apply below_drew1) | exact HB.out))); (case aF => exact (fun _ _ => trivial)); (case aO => exact (by (with_reducible repeat (first | apply Kd.R_alloc | apply Kd.R_drewN | apply Kd.R_drew)); exact HO_7.out)); (case aS => exact (below_size (by repeat (first | (with_reducible first | exact HB.out | apply below_alloc | apply pw_below_drewN | apply below_drew1) | exact HB.out)))); (case aL => have := LMc131.out; omega); intro v219 w132 ho hb hg hat; rw [← Ny218.out] at ho; have n0_ := Aside0.mk (hb); have n1_ := Aside0.mk (ho); clear HB; clear HO_7; have HB := n0_; have HO220 := n1_; clear n0_ n1_; clear ho hb hg hat))
             go_roundg k2
             case measure => have := HK1.out; have := HK2.out; omega
             case rel => exact ⟨(y218), (wrap64 (x9_2 + 1)), (by first | rfl | (simp; done) | (simp [*]; done)), H', ⟨by have := HK1.out; have := HK2.out; omega⟩, ⟨by (with_reducible repeat (first | apply Kd.R_alloc | apply Kd.R_drewN | apply Kd.R_drew)); exact HO220.out⟩, ⟨by repeat (first | (with_reducible first | exact HB.out | apply below_alloc | apply pw_below_drewN | apply below_drew1) | exact HB.out)⟩⟩
            ·rw [if_neg c131] at H
             exact absurd H (by simp)
           ·rw [if_neg c130] at H
            have c130b0 : (a1 == 2) = false := beq_eq_false_iff_ne.mpr c130
            have c130b1 : (a1 != 2) = true := bne_iff_ne.mpr c130
            by_cases c133 : a1 = 3
            ·rw [if_pos c133] at H
             have c133b0 : (a1 == 3) = true := beq_iff_eq.mpr c133
             have c133b1 : (a1 != 3) = false := bne_eq_false_iff_eq.mpr c133
             clear c133
             by_cases c134 : x7_2.length < 8796093022208
             ·rw [if_pos c134] at H
              have LMc134 := Aside0.mk c134
              clear c134
              obtain ⟨y221, hy221⟩ : ∃ y_ : List (S64), y_ = (x7_2 ++ [(⟨x8_1, x9_2⟩ : S64)]) := ⟨_, rfl⟩
              replace H : (spec_neWhole.l1 k2 a0 a1 a2 y221 x8_1 (wrap64 (x9_2 + 1))) = some r := by first | (rw [hy221]; with_reducible exact H) | (have H2_ := (Option.bind_some _ _).symm.trans H; rw [hy221]; with_reducible exact H2_) | (have H2_ := (Option.bind_some _ _).symm.trans H; with_reducible exact H2_) | with_reducible exact H | (rw [hy221]; exact H) | exact H
              have Ny221 := Aside0.mk hy221
              clear hy221
              have H' := Aside0.mk H
              clear H
              go_wp2_with (first | ((with_reducible refine gate_builtin (b := .append) (xs := #[.tmp 71, .tmp 75]) rfl ?_); at_builtin; refine Kd.R_append k64 (w0 := w) w.heap.size rfl (.tmp 71) (.tmp 75) 22 64 (.agg #[(.int .i64 0), (.int .i64 0)]) 16 rfl Try.underlying22 info64 rfl (by decide) (by omega) u7 x7_2 (⟨x8_1, x9_2⟩ : S64) [.int .i64 x8_1, .int .i64 x9_2] (fun _ => True) (fun _ => False) rfl rfl ?aP (fun _ hk => hk.elim) ?aF ?aO ?aB ?aS ?aL ?_; (case aP => exact k64_mkM _ _ _ (⟨x8_1, x9_2⟩ : S64)); (case aB => exact (by repeat (first | (with_reducible first | exact HB.out | apply below_alloc | apply pw_below_drewN | apply below_drew1) | exact HB.out))); (case aF => exact (fun _ _ => trivial)); (case aO => exact (by (with_reducible repeat (first | apply Kd.R_alloc | apply Kd.R_drewN | apply Kd.R_drew)); exact HO_7.out)); (case aS => exact (below_size (by repeat (first | (with_reducible first | exact HB.out | apply below_alloc | apply pw_below_drewN | apply below_drew1) | exact HB.out)))); (case aL => have := LMc134.out; omega); intro v222 w135 ho hb hg hat; rw [← Ny221.out] at ho; have n0_ := Aside0.mk (hb); have n1_ := Aside0.mk (ho); clear HB; clear HO_7; have HB := n0_; have HO223 := n1_; clear n0_ n1_; clear ho hb hg hat))
              go_roundg k2
              case measure => have := HK1.out; have := HK2.out; omega
              case rel => exact ⟨(y221), (wrap64 (x9_2 + 1)), (by first | rfl | (simp; done) | (simp [*]; done)), H', ⟨by have := HK1.out; have := HK2.out; omega⟩, ⟨by (with_reducible repeat (first | apply Kd.R_alloc | apply Kd.R_drewN | apply Kd.R_drew)); exact HO223.out⟩, ⟨by repeat (first | (with_reducible first | exact HB.out | apply below_alloc | apply pw_below_drewN | apply below_drew1) | exact HB.out)⟩⟩
             ·rw [if_neg c134] at H
              exact absurd H (by simp)
            ·rw [if_neg c133] at H
             have c133b0 : (a1 == 3) = false := beq_eq_false_iff_ne.mpr c133
             have c133b1 : (a1 != 3) = true := bne_iff_ne.mpr c133
             have H' := Aside0.mk H
             clear H
             go_wp2
             go_roundg k2
             case measure => have := HK1.out; have := HK2.out; omega
             case rel => exact ⟨(x7_2), (wrap64 (x9_2 + 1)), (by first | rfl | (simp; done) | (simp [*]; done)), H', ⟨by have := HK1.out; have := HK2.out; omega⟩, ⟨by (with_reducible repeat (first | apply Kd.R_alloc | apply Kd.R_drewN | apply Kd.R_drew)); exact HO_7.out⟩, ⟨by repeat (first | (with_reducible first | exact HB.out | apply below_alloc | apply pw_below_drewN | apply below_drew1) | exact HB.out)⟩⟩
        ·rw [if_neg c102] at H
         have c102b0 : (x8_1 == a2) = false := beq_eq_false_iff_ne.mpr c102
         have c102b1 : (x8_1 != a2) = true := bne_iff_ne.mpr c102
         by_cases c136 : a1 = 0
         ·rw [if_pos c136] at H
          have c136b0 : (a1 == 0) = true := beq_iff_eq.mpr c136
          have c136b1 : (a1 != 0) = false := bne_eq_false_iff_eq.mpr c136
          clear c136
          by_cases c137 : x9_2 = (wrap64 (x8_1 + 1))
          ·rw [if_pos c137] at H
           have c137b0 : (x9_2 == (wrap64 (x8_1 + 1))) = true := beq_iff_eq.mpr c137
           have c137b1 : (x9_2 != (wrap64 (x8_1 + 1))) = false := bne_eq_false_iff_eq.mpr c137
           clear c137
           by_cases c138 : x7_2.length < 8796093022208
           ·rw [if_pos c138] at H
            have LMc138 := Aside0.mk c138
            clear c138
            obtain ⟨y224, hy224⟩ : ∃ y_ : List (S64), y_ = (x7_2 ++ [(⟨x8_1, x9_2⟩ : S64)]) := ⟨_, rfl⟩
            replace H : (spec_neWhole.l1 k2 a0 a1 a2 y224 x8_1 (wrap64 (x9_2 + 1))) = some r := by first | (rw [hy224]; with_reducible exact H) | (have H2_ := (Option.bind_some _ _).symm.trans H; rw [hy224]; with_reducible exact H2_) | (have H2_ := (Option.bind_some _ _).symm.trans H; with_reducible exact H2_) | with_reducible exact H | (rw [hy224]; exact H) | exact H
            have Ny224 := Aside0.mk hy224
            clear hy224
            have H' := Aside0.mk H
            clear H
            go_wp2_with (first | ((with_reducible refine gate_builtin (b := .append) (xs := #[.tmp 71, .tmp 75]) rfl ?_); at_builtin; refine Kd.R_append k64 (w0 := w) w.heap.size rfl (.tmp 71) (.tmp 75) 22 64 (.agg #[(.int .i64 0), (.int .i64 0)]) 16 rfl Try.underlying22 info64 rfl (by decide) (by omega) u7 x7_2 (⟨x8_1, x9_2⟩ : S64) [.int .i64 x8_1, .int .i64 x9_2] (fun _ => True) (fun _ => False) rfl rfl ?aP (fun _ hk => hk.elim) ?aF ?aO ?aB ?aS ?aL ?_; (case aP => exact k64_mkM _ _ _ (⟨x8_1, x9_2⟩ : S64)); (case aB => exact (by repeat (first | (with_reducible first | exact HB.out | apply below_alloc | apply pw_below_drewN | apply below_drew1) | exact HB.out))); (case aF => exact (fun _ _ => trivial)); (case aO => exact (by (with_reducible repeat (first | apply Kd.R_alloc | apply Kd.R_drewN | apply Kd.R_drew)); exact HO_7.out)); (case aS => exact (below_size (by repeat (first | (with_reducible first | exact HB.out | apply below_alloc | apply pw_below_drewN | apply below_drew1) | exact HB.out)))); (case aL => have := LMc138.out; omega); intro v225 w139 ho hb hg hat; rw [← Ny224.out] at ho; have n0_ := Aside0.mk (hb); have n1_ := Aside0.mk (ho); clear HB; clear HO_7; have HB := n0_; have HO226 := n1_; clear n0_ n1_; clear ho hb hg hat))
            go_roundg k2
            case measure => have := HK1.out; have := HK2.out; omega
            case rel => exact ⟨(y224), (wrap64 (x9_2 + 1)), (by first | rfl | (simp; done) | (simp [*]; done)), H', ⟨by have := HK1.out; have := HK2.out; omega⟩, ⟨by (with_reducible repeat (first | apply Kd.R_alloc | apply Kd.R_drewN | apply Kd.R_drew)); exact HO226.out⟩, ⟨by repeat (first | (with_reducible first | exact HB.out | apply below_alloc | apply pw_below_drewN | apply below_drew1) | exact HB.out)⟩⟩
           ·rw [if_neg c138] at H
            exact absurd H (by simp)
          ·rw [if_neg c137] at H
           have c137b0 : (x9_2 == (wrap64 (x8_1 + 1))) = false := beq_eq_false_iff_ne.mpr c137
           have c137b1 : (x9_2 != (wrap64 (x8_1 + 1))) = true := bne_iff_ne.mpr c137
           by_cases c140 : a1 = 1
           ·rw [if_pos c140] at H
            have c140b0 : (a1 == 1) = true := beq_iff_eq.mpr c140
            have c140b1 : (a1 != 1) = false := bne_eq_false_iff_eq.mpr c140
            clear c140
            by_cases c141 : a1 = 2
            ·rw [if_pos c141] at H
             have c141b0 : (a1 == 2) = true := beq_iff_eq.mpr c141
             have c141b1 : (a1 != 2) = false := bne_eq_false_iff_eq.mpr c141
             clear c141
             by_cases c142 : x9_2 = a2
             ·rw [if_pos c142] at H
              have c142b0 : (x9_2 == a2) = true := beq_iff_eq.mpr c142
              have c142b1 : (x9_2 != a2) = false := bne_eq_false_iff_eq.mpr c142
              clear c142
              by_cases c143 : x7_2.length < 8796093022208
              ·rw [if_pos c143] at H
               have LMc143 := Aside0.mk c143
               clear c143
               obtain ⟨y227, hy227⟩ : ∃ y_ : List (S64), y_ = (x7_2 ++ [(⟨x8_1, x9_2⟩ : S64)]) := ⟨_, rfl⟩
               replace H : (spec_neWhole.l1 k2 a0 a1 a2 y227 x8_1 (wrap64 (x9_2 + 1))) = some r := by first | (rw [hy227]; with_reducible exact H) | (have H2_ := (Option.bind_some _ _).symm.trans H; rw [hy227]; with_reducible exact H2_) | (have H2_ := (Option.bind_some _ _).symm.trans H; with_reducible exact H2_) | with_reducible exact H | (rw [hy227]; exact H) | exact H
               have Ny227 := Aside0.mk hy227
               clear hy227
               have H' := Aside0.mk H
               clear H
               go_wp2_with (first | ((with_reducible refine gate_builtin (b := .append) (xs := #[.tmp 71, .tmp 75]) rfl ?_); at_builtin; refine Kd.R_append k64 (w0 := w) w.heap.size rfl (.tmp 71) (.tmp 75) 22 64 (.agg #[(.int .i64 0), (.int .i64 0)]) 16 rfl Try.underlying22 info64 rfl (by decide) (by omega) u7 x7_2 (⟨x8_1, x9_2⟩ : S64) [.int .i64 x8_1, .int .i64 x9_2] (fun _ => True) (fun _ => False) rfl rfl ?aP (fun _ hk => hk.elim) ?aF ?aO ?aB ?aS ?aL ?_; (case aP => exact k64_mkM _ _ _ (⟨x8_1, x9_2⟩ : S64)); (case aB => exact (by repeat (first | (with_reducible first | exact HB.out | apply below_alloc | apply pw_below_drewN | apply below_drew1) | exact HB.out))); (case aF => exact (fun _ _ => trivial)); (case aO => exact (by (with_reducible repeat (first | apply Kd.R_alloc | apply Kd.R_drewN | apply Kd.R_drew)); exact HO_7.out)); (case aS => exact (below_size (by repeat (first | (with_reducible first | exact HB.out | apply below_alloc | apply pw_below_drewN | apply below_drew1) | exact HB.out)))); (case aL => have := LMc143.out; omega); intro v228 w144 ho hb hg hat; rw [← Ny227.out] at ho; have n0_ := Aside0.mk (hb); have n1_ := Aside0.mk (ho); clear HB; clear HO_7; have HB := n0_; have HO229 := n1_; clear n0_ n1_; clear ho hb hg hat))
               go_roundg k2
               case measure => have := HK1.out; have := HK2.out; omega
               case rel => exact ⟨(y227), (wrap64 (x9_2 + 1)), (by first | rfl | (simp; done) | (simp [*]; done)), H', ⟨by have := HK1.out; have := HK2.out; omega⟩, ⟨by (with_reducible repeat (first | apply Kd.R_alloc | apply Kd.R_drewN | apply Kd.R_drew)); exact HO229.out⟩, ⟨by repeat (first | (with_reducible first | exact HB.out | apply below_alloc | apply pw_below_drewN | apply below_drew1) | exact HB.out)⟩⟩
              ·rw [if_neg c143] at H
               exact absurd H (by simp)
             ·rw [if_neg c142] at H
              have c142b0 : (x9_2 == a2) = false := beq_eq_false_iff_ne.mpr c142
              have c142b1 : (x9_2 != a2) = true := bne_iff_ne.mpr c142
              by_cases c145 : a1 = 3
              ·rw [if_pos c145] at H
               have c145b0 : (a1 == 3) = true := beq_iff_eq.mpr c145
               have c145b1 : (a1 != 3) = false := bne_eq_false_iff_eq.mpr c145
               clear c145
               by_cases c146 : x7_2.length < 8796093022208
               ·rw [if_pos c146] at H
                have LMc146 := Aside0.mk c146
                clear c146
                obtain ⟨y230, hy230⟩ : ∃ y_ : List (S64), y_ = (x7_2 ++ [(⟨x8_1, x9_2⟩ : S64)]) := ⟨_, rfl⟩
                replace H : (spec_neWhole.l1 k2 a0 a1 a2 y230 x8_1 (wrap64 (x9_2 + 1))) = some r := by first | (rw [hy230]; with_reducible exact H) | (have H2_ := (Option.bind_some _ _).symm.trans H; rw [hy230]; with_reducible exact H2_) | (have H2_ := (Option.bind_some _ _).symm.trans H; with_reducible exact H2_) | with_reducible exact H | (rw [hy230]; exact H) | exact H
                have Ny230 := Aside0.mk hy230
                clear hy230
                have H' := Aside0.mk H
                clear H
                go_wp2_with (first | ((with_reducible refine gate_builtin (b := .append) (xs := #[.tmp 71, .tmp 75]) rfl ?_); at_builtin; refine Kd.R_append k64 (w0 := w) w.heap.size rfl (.tmp 71) (.tmp 75) 22 64 (.agg #[(.int .i64 0), (.int .i64 0)]) 16 rfl Try.underlying22 info64 rfl (by decide) (by omega) u7 x7_2 (⟨x8_1, x9_2⟩ : S64) [.int .i64 x8_1, .int .i64 x9_2] (fun _ => True) (fun _ => False) rfl rfl ?aP (fun _ hk => hk.elim) ?aF ?aO ?aB ?aS ?aL ?_; (case aP => exact k64_mkM _ _ _ (⟨x8_1, x9_2⟩ : S64)); (case aB => exact (by repeat (first | (with_reducible first | exact HB.out | apply below_alloc | apply pw_below_drewN | apply below_drew1) | exact HB.out))); (case aF => exact (fun _ _ => trivial)); (case aO => exact (by (with_reducible repeat (first | apply Kd.R_alloc | apply Kd.R_drewN | apply Kd.R_drew)); exact HO_7.out)); (case aS => exact (below_size (by repeat (first | (with_reducible first | exact HB.out | apply below_alloc | apply pw_below_drewN | apply below_drew1) | exact HB.out)))); (case aL => have := LMc146.out; omega); intro v231 w147 ho hb hg hat; rw [← Ny230.out] at ho; have n0_ := Aside0.mk (hb); have n1_ := Aside0.mk (ho); clear HB; clear HO_7; have HB := n0_; have HO232 := n1_; clear n0_ n1_; clear ho hb hg hat))
                go_roundg k2
                case measure => have := HK1.out; have := HK2.out; omega
                case rel => exact ⟨(y230), (wrap64 (x9_2 + 1)), (by first | rfl | (simp; done) | (simp [*]; done)), H', ⟨by have := HK1.out; have := HK2.out; omega⟩, ⟨by (with_reducible repeat (first | apply Kd.R_alloc | apply Kd.R_drewN | apply Kd.R_drew)); exact HO232.out⟩, ⟨by repeat (first | (with_reducible first | exact HB.out | apply below_alloc | apply pw_below_drewN | apply below_drew1) | exact HB.out)⟩⟩
               ·rw [if_neg c146] at H
                exact absurd H (by simp)
              ·rw [if_neg c145] at H
               have c145b0 : (a1 == 3) = false := beq_eq_false_iff_ne.mpr c145
               have c145b1 : (a1 != 3) = true := bne_iff_ne.mpr c145
               have H' := Aside0.mk H
               clear H
               go_wp2
               go_roundg k2
               case measure => have := HK1.out; have := HK2.out; omega
               case rel => exact ⟨(x7_2), (wrap64 (x9_2 + 1)), (by first | rfl | (simp; done) | (simp [*]; done)), H', ⟨by have := HK1.out; have := HK2.out; omega⟩, ⟨by (with_reducible repeat (first | apply Kd.R_alloc | apply Kd.R_drewN | apply Kd.R_drew)); exact HO_7.out⟩, ⟨by repeat (first | (with_reducible first | exact HB.out | apply below_alloc | apply pw_below_drewN | apply below_drew1) | exact HB.out)⟩⟩
            ·rw [if_neg c141] at H
             have c141b0 : (a1 == 2) = false := beq_eq_false_iff_ne.mpr c141
             have c141b1 : (a1 != 2) = true := bne_iff_ne.mpr c141
             by_cases c148 : a1 = 3
             ·rw [if_pos c148] at H
              have c148b0 : (a1 == 3) = true := beq_iff_eq.mpr c148
              have c148b1 : (a1 != 3) = false := bne_eq_false_iff_eq.mpr c148
              clear c148
              by_cases c149 : x7_2.length < 8796093022208
              ·rw [if_pos c149] at H
               have LMc149 := Aside0.mk c149
               clear c149
               obtain ⟨y233, hy233⟩ : ∃ y_ : List (S64), y_ = (x7_2 ++ [(⟨x8_1, x9_2⟩ : S64)]) := ⟨_, rfl⟩
               replace H : (spec_neWhole.l1 k2 a0 a1 a2 y233 x8_1 (wrap64 (x9_2 + 1))) = some r := by first | (rw [hy233]; with_reducible exact H) | (have H2_ := (Option.bind_some _ _).symm.trans H; rw [hy233]; with_reducible exact H2_) | (have H2_ := (Option.bind_some _ _).symm.trans H; with_reducible exact H2_) | with_reducible exact H | (rw [hy233]; exact H) | exact H
               have Ny233 := Aside0.mk hy233
               clear hy233
               have H' := Aside0.mk H
               clear H
               go_wp2_with (first | ((with_reducible refine gate_builtin (b := .append) (xs := #[.tmp 71, .tmp 75]) rfl ?_); at_builtin; refine Kd.R_append k64 (w0 := w) w.heap.size rfl (.tmp 71) (.tmp 75) 22 64 (.agg #[(.int .i64 0), (.int .i64 0)]) 16 rfl Try.underlying22 info64 rfl (by decide) (by omega) u7 x7_2 (⟨x8_1, x9_2⟩ : S64) [.int .i64 x8_1, .int .i64 x9_2] (fun _ => True) (fun _ => False) rfl rfl ?aP (fun _ hk => hk.elim) ?aF ?aO ?aB ?aS ?aL ?_; (case aP => exact k64_mkM _ _ _ (⟨x8_1, x9_2⟩ : S64)); (case aB => exact (by repeat (first | (with_reducible first | exact HB.out | apply below_alloc | apply pw_below_drewN | apply below_drew1) | exact HB.out))); (case aF => exact (fun _ _ => trivial)); (case aO => exact (by (with_reducible repeat (first | apply Kd.R_alloc | apply Kd.R_drewN | apply Kd.R_drew)); exact HO_7.out)); (case aS => exact (below_size (by repeat (first | (with_reducible first | exact HB.out | apply below_alloc | apply pw_below_drewN | apply below_drew1) | exact HB.out)))); (case aL => have := LMc149.out; omega); intro v234 w150 ho hb hg hat; rw [← Ny233.out] at ho; have n0_ := Aside0.mk (hb); have n1_ := Aside0.mk (ho); clear HB; clear HO_7; have HB := n0_; have HO235 := n1_; clear n0_ n1_; clear ho hb hg hat))
               go_roundg k2
               case measure => have := HK1.out; have := HK2.out; omega
               case rel => exact ⟨(y233), (wrap64 (x9_2 + 1)), (by first | rfl | (simp; done) | (simp [*]; done)), H', ⟨by have := HK1.out; have := HK2.out; omega⟩, ⟨by (with_reducible repeat (first | apply Kd.R_alloc | apply Kd.R_drewN | apply Kd.R_drew)); exact HO235.out⟩, ⟨by repeat (first | (with_reducible first | exact HB.out | apply below_alloc | apply pw_below_drewN | apply below_drew1) | exact HB.out)⟩⟩
              ·rw [if_neg c149] at H
               exact absurd H (by simp)
             ·rw [if_neg c148] at H
              have c148b0 : (a1 == 3) = false := beq_eq_false_iff_ne.mpr c148
              have c148b1 : (a1 != 3) = true := bne_iff_ne.mpr c148
              have H' := Aside0.mk H
              clear H
              go_wp2
              go_roundg k2
              case measure => have := HK1.out; have := HK2.out; omega
              case rel => exact ⟨(x7_2), (wrap64 (x9_2 + 1)), (by first | rfl | (simp; done) | (simp [*]; done)), H', ⟨by have := HK1.out; have := HK2.out; omega⟩, ⟨by (with_reducible repeat (first | apply Kd.R_alloc | apply Kd.R_drewN | apply Kd.R_drew)); exact HO_7.out⟩, ⟨by repeat (first | (with_reducible first | exact HB.out | apply below_alloc | apply pw_below_drewN | apply below_drew1) | exact HB.out)⟩⟩
           ·rw [if_neg c140] at H
            have c140b0 : (a1 == 1) = false := beq_eq_false_iff_ne.mpr c140
            have c140b1 : (a1 != 1) = true := bne_iff_ne.mpr c140
            by_cases c151 : a1 = 2
            ·rw [if_pos c151] at H
             have c151b0 : (a1 == 2) = true := beq_iff_eq.mpr c151
             have c151b1 : (a1 != 2) = false := bne_eq_false_iff_eq.mpr c151
             clear c151
             by_cases c152 : x9_2 = a2
             ·rw [if_pos c152] at H
              have c152b0 : (x9_2 == a2) = true := beq_iff_eq.mpr c152
              have c152b1 : (x9_2 != a2) = false := bne_eq_false_iff_eq.mpr c152
              clear c152
              by_cases c153 : x7_2.length < 8796093022208
              ·rw [if_pos c153] at H
               have LMc153 := Aside0.mk c153
               clear c153
               obtain ⟨y236, hy236⟩ : ∃ y_ : List (S64), y_ = (x7_2 ++ [(⟨x8_1, x9_2⟩ : S64)]) := ⟨_, rfl⟩
               replace H : (spec_neWhole.l1 k2 a0 a1 a2 y236 x8_1 (wrap64 (x9_2 + 1))) = some r := by first | (rw [hy236]; with_reducible exact H) | (have H2_ := (Option.bind_some _ _).symm.trans H; rw [hy236]; with_reducible exact H2_) | (have H2_ := (Option.bind_some _ _).symm.trans H; with_reducible exact H2_) | with_reducible exact H | (rw [hy236]; exact H) | exact H
               have Ny236 := Aside0.mk hy236
               clear hy236
               have H' := Aside0.mk H
               clear H
               go_wp2_with (first | ((with_reducible refine gate_builtin (b := .append) (xs := #[.tmp 71, .tmp 75]) rfl ?_); at_builtin; refine Kd.R_append k64 (w0 := w) w.heap.size rfl (.tmp 71) (.tmp 75) 22 64 (.agg #[(.int .i64 0), (.int .i64 0)]) 16 rfl Try.underlying22 info64 rfl (by decide) (by omega) u7 x7_2 (⟨x8_1, x9_2⟩ : S64) [.int .i64 x8_1, .int .i64 x9_2] (fun _ => True) (fun _ => False) rfl rfl ?aP (fun _ hk => hk.elim) ?aF ?aO ?aB ?aS ?aL ?_; (case aP => exact k64_mkM _ _ _ (⟨x8_1, x9_2⟩ : S64)); (case aB => exact (by repeat (first | (with_reducible first | exact HB.out | apply below_alloc | apply pw_below_drewN | apply below_drew1) | exact HB.out))); (case aF => exact (fun _ _ => trivial)); (case aO => exact (by (with_reducible repeat (first | apply Kd.R_alloc | apply Kd.R_drewN | apply Kd.R_drew)); exact HO_7.out)); (case aS => exact (below_size (by repeat (first | (with_reducible first | exact HB.out | apply below_alloc | apply pw_below_drewN | apply below_drew1) | exact HB.out)))); (case aL => have := LMc153.out; omega); intro v237 w154 ho hb hg hat; rw [← Ny236.out] at ho; have n0_ := Aside0.mk (hb); have n1_ := Aside0.mk (ho); clear HB; clear HO_7; have HB := n0_; have HO238 := n1_; clear n0_ n1_; clear ho hb hg hat))
               go_roundg k2
               case measure => have := HK1.out; have := HK2.out; omega
               case rel => exact ⟨(y236), (wrap64 (x9_2 + 1)), (by first | rfl | (simp; done) | (simp [*]; done)), H', ⟨by have := HK1.out; have := HK2.out; omega⟩, ⟨by (with_reducible repeat (first | apply Kd.R_alloc | apply Kd.R_drewN | apply Kd.R_drew)); exact HO238.out⟩, ⟨by repeat (first | (with_reducible first | exact HB.out | apply below_alloc | apply pw_below_drewN | apply below_drew1) | exact HB.out)⟩⟩
              ·rw [if_neg c153] at H
               exact absurd H (by simp)
             ·rw [if_neg c152] at H
              have c152b0 : (x9_2 == a2) = false := beq_eq_false_iff_ne.mpr c152
              have c152b1 : (x9_2 != a2) = true := bne_iff_ne.mpr c152
              by_cases c155 : a1 = 3
              ·rw [if_pos c155] at H
               have c155b0 : (a1 == 3) = true := beq_iff_eq.mpr c155
               have c155b1 : (a1 != 3) = false := bne_eq_false_iff_eq.mpr c155
               clear c155
               by_cases c156 : x7_2.length < 8796093022208
               ·rw [if_pos c156] at H
                have LMc156 := Aside0.mk c156
                clear c156
                obtain ⟨y239, hy239⟩ : ∃ y_ : List (S64), y_ = (x7_2 ++ [(⟨x8_1, x9_2⟩ : S64)]) := ⟨_, rfl⟩
                replace H : (spec_neWhole.l1 k2 a0 a1 a2 y239 x8_1 (wrap64 (x9_2 + 1))) = some r := by first | (rw [hy239]; with_reducible exact H) | (have H2_ := (Option.bind_some _ _).symm.trans H; rw [hy239]; with_reducible exact H2_) | (have H2_ := (Option.bind_some _ _).symm.trans H; with_reducible exact H2_) | with_reducible exact H | (rw [hy239]; exact H) | exact H
                have Ny239 := Aside0.mk hy239
                clear hy239
                have H' := Aside0.mk H
                clear H
                go_wp2_with (first | ((with_reducible refine gate_builtin (b := .append) (xs := #[.tmp 71, .tmp 75]) rfl ?_); at_builtin; refine Kd.R_append k64 (w0 := w) w.heap.size rfl (.tmp 71) (.tmp 75) 22 64 (.agg #[(.int .i64 0), (.int .i64 0)]) 16 rfl Try.underlying22 info64 rfl (by decide) (by omega) u7 x7_2 (⟨x8_1, x9_2⟩ : S64) [.int .i64 x8_1, .int .i64 x9_2] (fun _ => True) (fun _ => False) rfl rfl ?aP (fun _ hk => hk.elim) ?aF ?aO ?aB ?aS ?aL ?_; (case aP => exact k64_mkM _ _ _ (⟨x8_1, x9_2⟩ : S64)); (case aB => exact (by repeat (first | (with_reducible first | exact HB.out | apply below_alloc | apply pw_below_drewN | apply below_drew1) | exact HB.out))); (case aF => exact (fun _ _ => trivial)); (case aO => exact (by (with_reducible repeat (first | apply Kd.R_alloc | apply Kd.R_drewN | apply Kd.R_drew)); exact HO_7.out)); (case aS => exact (below_size (by repeat (first | (with_reducible first | exact HB.out | apply below_alloc | apply pw_below_drewN | apply below_drew1) | exact HB.out)))); (case aL => have := LMc156.out; omega); intro v240 w157 ho hb hg hat; rw [← Ny239.out] at ho; have n0_ := Aside0.mk (hb); have n1_ := Aside0.mk (ho); clear HB; clear HO_7; have HB := n0_; have HO241 := n1_; clear n0_ n1_; clear ho hb hg hat))
                go_roundg k2
                case measure => have := HK1.out; have := HK2.out; omega
                case rel => exact ⟨(y239), (wrap64 (x9_2 + 1)), (by first | rfl | (simp; done) | (simp [*]; done)), H', ⟨by have := HK1.out; have := HK2.out; omega⟩, ⟨by (with_reducible repeat (first | apply Kd.R_alloc | apply Kd.R_drewN | apply Kd.R_drew)); exact HO241.out⟩, ⟨by repeat (first | (with_reducible first | exact HB.out | apply below_alloc | apply pw_below_drewN | apply below_drew1) | exact HB.out)⟩⟩
               ·rw [if_neg c156] at H
                exact absurd H (by simp)
              ·rw [if_neg c155] at H
               have c155b0 : (a1 == 3) = false := beq_eq_false_iff_ne.mpr c155
               have c155b1 : (a1 != 3) = true := bne_iff_ne.mpr c155
               have H' := Aside0.mk H
               clear H
               go_wp2
               go_roundg k2
               case measure => have := HK1.out; have := HK2.out; omega
               case rel => exact ⟨(x7_2), (wrap64 (x9_2 + 1)), (by first | rfl | (simp; done) | (simp [*]; done)), H', ⟨by have := HK1.out; have := HK2.out; omega⟩, ⟨by (with_reducible repeat (first | apply Kd.R_alloc | apply Kd.R_drewN | apply Kd.R_drew)); exact HO_7.out⟩, ⟨by repeat (first | (with_reducible first | exact HB.out | apply below_alloc | apply pw_below_drewN | apply below_drew1) | exact HB.out)⟩⟩
            ·rw [if_neg c151] at H
             have c151b0 : (a1 == 2) = false := beq_eq_false_iff_ne.mpr c151
             have c151b1 : (a1 != 2) = true := bne_iff_ne.mpr c151
             by_cases c158 : a1 = 3
             ·rw [if_pos c158] at H
              have c158b0 : (a1 == 3) = true := beq_iff_eq.mpr c158
              have c158b1 : (a1 != 3) = false := bne_eq_false_iff_eq.mpr c158
              clear c158
              by_cases c159 : x7_2.length < 8796093022208
              ·rw [if_pos c159] at H
               have LMc159 := Aside0.mk c159
               clear c159
               obtain ⟨y242, hy242⟩ : ∃ y_ : List (S64), y_ = (x7_2 ++ [(⟨x8_1, x9_2⟩ : S64)]) := ⟨_, rfl⟩
               replace H : (spec_neWhole.l1 k2 a0 a1 a2 y242 x8_1 (wrap64 (x9_2 + 1))) = some r := by first | (rw [hy242]; with_reducible exact H) | (have H2_ := (Option.bind_some _ _).symm.trans H; rw [hy242]; with_reducible exact H2_) | (have H2_ := (Option.bind_some _ _).symm.trans H; with_reducible exact H2_) | with_reducible exact H | (rw [hy242]; exact H) | exact H
               have Ny242 := Aside0.mk hy242
               clear hy242
               have H' := Aside0.mk H
               clear H
               go_wp2_with (first | ((with_reducible refine gate_builtin (b := .append) (xs := #[.tmp 71, .tmp 75]) rfl ?_); at_builtin; refine Kd.R_append k64 (w0 := w) w.heap.size rfl (.tmp 71) (.tmp 75) 22 64 (.agg #[(.int .i64 0), (.int .i64 0)]) 16 rfl Try.underlying22 info64 rfl (by decide) (by omega) u7 x7_2 (⟨x8_1, x9_2⟩ : S64) [.int .i64 x8_1, .int .i64 x9_2] (fun _ => True) (fun _ => False) rfl rfl ?aP (fun _ hk => hk.elim) ?aF ?aO ?aB ?aS ?aL ?_; (case aP => exact k64_mkM _ _ _ (⟨x8_1, x9_2⟩ : S64)); (case aB => exact (by repeat (first | (with_reducible first | exact HB.out | apply below_alloc | apply pw_below_drewN | apply below_drew1) | exact HB.out))); (case aF => exact (fun _ _ => trivial)); (case aO => exact (by (with_reducible repeat (first | apply Kd.R_alloc | apply Kd.R_drewN | apply Kd.R_drew)); exact HO_7.out)); (case aS => exact (below_size (by repeat (first | (with_reducible first | exact HB.out | apply below_alloc | apply pw_below_drewN | apply below_drew1) | exact HB.out)))); (case aL => have := LMc159.out; omega); intro v243 w160 ho hb hg hat; rw [← Ny242.out] at ho; have n0_ := Aside0.mk (hb); have n1_ := Aside0.mk (ho); clear HB; clear HO_7; have HB := n0_; have HO244 := n1_; clear n0_ n1_; clear ho hb hg hat))
               go_roundg k2
               case measure => have := HK1.out; have := HK2.out; omega
               case rel => exact ⟨(y242), (wrap64 (x9_2 + 1)), (by first | rfl | (simp; done) | (simp [*]; done)), H', ⟨by have := HK1.out; have := HK2.out; omega⟩, ⟨by (with_reducible repeat (first | apply Kd.R_alloc | apply Kd.R_drewN | apply Kd.R_drew)); exact HO244.out⟩, ⟨by repeat (first | (with_reducible first | exact HB.out | apply below_alloc | apply pw_below_drewN | apply below_drew1) | exact HB.out)⟩⟩
              ·rw [if_neg c159] at H
               exact absurd H (by simp)
             ·rw [if_neg c158] at H
              have c158b0 : (a1 == 3) = false := beq_eq_false_iff_ne.mpr c158
              have c158b1 : (a1 != 3) = true := bne_iff_ne.mpr c158
              have H' := Aside0.mk H
              clear H
              go_wp2
              go_roundg k2
              case measure => have := HK1.out; have := HK2.out; omega
              case rel => exact ⟨(x7_2), (wrap64 (x9_2 + 1)), (by first | rfl | (simp; done) | (simp [*]; done)), H', ⟨by have := HK1.out; have := HK2.out; omega⟩, ⟨by (with_reducible repeat (first | apply Kd.R_alloc | apply Kd.R_drewN | apply Kd.R_drew)); exact HO_7.out⟩, ⟨by repeat (first | (with_reducible first | exact HB.out | apply below_alloc | apply pw_below_drewN | apply below_drew1) | exact HB.out)⟩⟩
         ·rw [if_neg c136] at H
          have c136b0 : (a1 == 0) = false := beq_eq_false_iff_ne.mpr c136
          have c136b1 : (a1 != 0) = true := bne_iff_ne.mpr c136
          by_cases c161 : a1 = 1
          ·rw [if_pos c161] at H
           have c161b0 : (a1 == 1) = true := beq_iff_eq.mpr c161
           have c161b1 : (a1 != 1) = false := bne_eq_false_iff_eq.mpr c161
           clear c161
           by_cases c162 : x9_2 = (wrap64 (x8_1 + 1))
           ·rw [if_pos c162] at H
            have c162b0 : (x9_2 == (wrap64 (x8_1 + 1))) = true := beq_iff_eq.mpr c162
            have c162b1 : (x9_2 != (wrap64 (x8_1 + 1))) = false := bne_eq_false_iff_eq.mpr c162
            clear c162
            by_cases c163 : x7_2.length < 8796093022208
            ·rw [if_pos c163] at H
             have LMc163 := Aside0.mk c163
             clear c163
             obtain ⟨y245, hy245⟩ : ∃ y_ : List (S64), y_ = (x7_2 ++ [(⟨x8_1, x9_2⟩ : S64)]) := ⟨_, rfl⟩
             replace H : (spec_neWhole.l1 k2 a0 a1 a2 y245 x8_1 (wrap64 (x9_2 + 1))) = some r := by first | (rw [hy245]; with_reducible exact H) | (have H2_ := (Option.bind_some _ _).symm.trans H; rw [hy245]; with_reducible exact H2_) | (have H2_ := (Option.bind_some _ _).symm.trans H; with_reducible exact H2_) | with_reducible exact H | (rw [hy245]; exact H) | exact H
             have Ny245 := Aside0.mk hy245
             clear hy245
             have H' := Aside0.mk H
             clear H
             go_wp2_with (first | ((with_reducible refine gate_builtin (b := .append) (xs := #[.tmp 71, .tmp 75]) rfl ?_); at_builtin; refine Kd.R_append k64 (w0 := w) w.heap.size rfl (.tmp 71) (.tmp 75) 22 64 (.agg #[(.int .i64 0), (.int .i64 0)]) 16 rfl Try.underlying22 info64 rfl (by decide) (by omega) u7 x7_2 (⟨x8_1, x9_2⟩ : S64) [.int .i64 x8_1, .int .i64 x9_2] (fun _ => True) (fun _ => False) rfl rfl ?aP (fun _ hk => hk.elim) ?aF ?aO ?aB ?aS ?aL ?_; (case aP => exact k64_mkM _ _ _ (⟨x8_1, x9_2⟩ : S64)); (case aB => exact (by repeat (first | (with_reducible first | exact HB.out | apply below_alloc | apply pw_below_drewN | apply below_drew1) | exact HB.out))); (case aF => exact (fun _ _ => trivial)); (case aO => exact (by (with_reducible repeat (first | apply Kd.R_alloc | apply Kd.R_drewN | apply Kd.R_drew)); exact HO_7.out)); (case aS => exact (below_size (by repeat (first | (with_reducible first | exact HB.out | apply below_alloc | apply pw_below_drewN | apply below_drew1) | exact HB.out)))); (case aL => have := LMc163.out; omega); intro v246 w164 ho hb hg hat; rw [← Ny245.out] at ho; have n0_ := Aside0.mk (hb); have n1_ := Aside0.mk (ho); clear HB; clear HO_7; have HB := n0_; have HO247 := n1_; clear n0_ n1_; clear ho hb hg hat))
             go_roundg k2
             case measure => have := HK1.out; have := HK2.out; omega
             case rel => exact ⟨(y245), (wrap64 (x9_2 + 1)), (by first | rfl | (simp; done) | (simp [*]; done)), H', ⟨by have := HK1.out; have := HK2.out; omega⟩, ⟨by (with_reducible repeat (first | apply Kd.R_alloc | apply Kd.R_drewN | apply Kd.R_drew)); exact HO247.out⟩, ⟨by repeat (first | (with_reducible first | exact HB.out | apply below_alloc | apply pw_below_drewN | apply below_drew1) | exact HB.out)⟩⟩
            ·rw [if_neg c163] at H
             exact absurd H (by simp)
           ·rw [if_neg c162] at H
            have c162b0 : (x9_2 == (wrap64 (x8_1 + 1))) = false := beq_eq_false_iff_ne.mpr c162
            have c162b1 : (x9_2 != (wrap64 (x8_1 + 1))) = true := bne_iff_ne.mpr c162
            by_cases c165 : a1 = 2
            ·rw [if_pos c165] at H
             have c165b0 : (a1 == 2) = true := beq_iff_eq.mpr c165
             have c165b1 : (a1 != 2) = false := bne_eq_false_iff_eq.mpr c165
             clear c165
             by_cases c166 : x9_2 = a2
             ·rw [if_pos c166] at H
              have c166b0 : (x9_2 == a2) = true := beq_iff_eq.mpr c166
              have c166b1 : (x9_2 != a2) = false := bne_eq_false_iff_eq.mpr c166
              clear c166
              by_cases c167 : x7_2.length < 8796093022208
              ·rw [if_pos c167] at H
               have LMc167 := Aside0.mk c167
               clear c167
               obtain ⟨y248, hy248⟩ : ∃ y_ : List (S64), y_ = (x7_2 ++ [(⟨x8_1, x9_2⟩ : S64)]) := ⟨_, rfl⟩
               replace H : (spec_neWhole.l1 k2 a0 a1 a2 y248 x8_1 (wrap64 (x9_2 + 1))) = some r := by first | (rw [hy248]; with_reducible exact H) | (have H2_ := (Option.bind_some _ _).symm.trans H; rw [hy248]; with_reducible exact H2_) | (have H2_ := (Option.bind_some _ _).symm.trans H; with_reducible exact H2_) | with_reducible exact H | (rw [hy248]; exact H) | exact H
               have Ny248 := Aside0.mk hy248
               clear hy248
               have H' := Aside0.mk H
               clear H
               go_wp2_with (first | ((with_reducible refine gate_builtin (b := .append) (xs := #[.tmp 71, .tmp 75]) rfl ?_); at_builtin; refine Kd.R_append k64 (w0 := w) w.heap.size rfl (.tmp 71) (.tmp 75) 22 64 (.agg #[(.int .i64 0), (.int .i64 0)]) 16 rfl Try.underlying22 info64 rfl (by decide) (by omega) u7 x7_2 (⟨x8_1, x9_2⟩ : S64) [.int .i64 x8_1, .int .i64 x9_2] (fun _ => True) (fun _ => False) rfl rfl ?aP (fun _ hk => hk.elim) ?aF ?aO ?aB ?aS ?aL ?_; (case aP => exact k64_mkM _ _ _ (⟨x8_1, x9_2⟩ : S64)); (case aB => exact (by repeat (first | (with_reducible first | exact HB.out | apply below_alloc | apply pw_below_drewN | apply below_drew1) | exact HB.out))); (case aF => exact (fun _ _ => trivial)); (case aO => exact (by (with_reducible repeat (first | apply Kd.R_alloc | apply Kd.R_drewN | apply Kd.R_drew)); exact HO_7.out)); (case aS => exact (below_size (by repeat (first | (with_reducible first | exact HB.out | apply below_alloc | apply pw_below_drewN | apply below_drew1) | exact HB.out)))); (case aL => have := LMc167.out; omega); intro v249 w168 ho hb hg hat; rw [← Ny248.out] at ho; have n0_ := Aside0.mk (hb); have n1_ := Aside0.mk (ho); clear HB; clear HO_7; have HB := n0_; have HO250 := n1_; clear n0_ n1_; clear ho hb hg hat))
               go_roundg k2
               case measure => have := HK1.out; have := HK2.out; omega
               case rel => exact ⟨(y248), (wrap64 (x9_2 + 1)), (by first | rfl | (simp; done) | (simp [*]; done)), H', ⟨by have := HK1.out; have := HK2.out; omega⟩, ⟨by (with_reducible repeat (first | apply Kd.R_alloc | apply Kd.R_drewN | apply Kd.R_drew)); exact HO250.out⟩, ⟨by repeat (first | (with_reducible first | exact HB.out | apply below_alloc | apply pw_below_drewN | apply below_drew1) | exact HB.out)⟩⟩
              ·rw [if_neg c167] at H
               exact absurd H (by simp)
             ·rw [if_neg c166] at H
              have c166b0 : (x9_2 == a2) = false := beq_eq_false_iff_ne.mpr c166
              have c166b1 : (x9_2 != a2) = true := bne_iff_ne.mpr c166
              by_cases c169 : a1 = 3
              ·rw [if_pos c169] at H
               have c169b0 : (a1 == 3) = true := beq_iff_eq.mpr c169
               have c169b1 : (a1 != 3) = false := bne_eq_false_iff_eq.mpr c169
               clear c169
               by_cases c170 : x7_2.length < 8796093022208
               ·rw [if_pos c170] at H
                have LMc170 := Aside0.mk c170
                clear c170
                obtain ⟨y251, hy251⟩ : ∃ y_ : List (S64), y_ = (x7_2 ++ [(⟨x8_1, x9_2⟩ : S64)]) := ⟨_, rfl⟩
                replace H : (spec_neWhole.l1 k2 a0 a1 a2 y251 x8_1 (wrap64 (x9_2 + 1))) = some r := by first | (rw [hy251]; with_reducible exact H) | (have H2_ := (Option.bind_some _ _).symm.trans H; rw [hy251]; with_reducible exact H2_) | (have H2_ := (Option.bind_some _ _).symm.trans H; with_reducible exact H2_) | with_reducible exact H | (rw [hy251]; exact H) | exact H
                have Ny251 := Aside0.mk hy251
                clear hy251
                have H' := Aside0.mk H
                clear H
                go_wp2_with (first | ((with_reducible refine gate_builtin (b := .append) (xs := #[.tmp 71, .tmp 75]) rfl ?_); at_builtin; refine Kd.R_append k64 (w0 := w) w.heap.size rfl (.tmp 71) (.tmp 75) 22 64 (.agg #[(.int .i64 0), (.int .i64 0)]) 16 rfl Try.underlying22 info64 rfl (by decide) (by omega) u7 x7_2 (⟨x8_1, x9_2⟩ : S64) [.int .i64 x8_1, .int .i64 x9_2] (fun _ => True) (fun _ => False) rfl rfl ?aP (fun _ hk => hk.elim) ?aF ?aO ?aB ?aS ?aL ?_; (case aP => exact k64_mkM _ _ _ (⟨x8_1, x9_2⟩ : S64)); (case aB => exact (by repeat (first | (with_reducible first | exact HB.out | apply below_alloc | apply pw_below_drewN | apply below_drew1) | exact HB.out))); (case aF => exact (fun _ _ => trivial)); (case aO => exact (by (with_reducible repeat (first | apply Kd.R_alloc | apply Kd.R_drewN | apply Kd.R_drew)); exact HO_7.out)); (case aS => exact (below_size (by repeat (first | (with_reducible first | exact HB.out | apply below_alloc | apply pw_below_drewN | apply below_drew1) | exact HB.out)))); (case aL => have := LMc170.out; omega); intro v252 w171 ho hb hg hat; rw [← Ny251.out] at ho; have n0_ := Aside0.mk (hb); have n1_ := Aside0.mk (ho); clear HB; clear HO_7; have HB := n0_; have HO253 := n1_; clear n0_ n1_; clear ho hb hg hat))
                go_roundg k2
                case measure => have := HK1.out; have := HK2.out; omega
                case rel => exact ⟨(y251), (wrap64 (x9_2 + 1)), (by first | rfl | (simp; done) | (simp [*]; done)), H', ⟨by have := HK1.out; have := HK2.out; omega⟩, ⟨by (with_reducible repeat (first | apply Kd.R_alloc | apply Kd.R_drewN | apply Kd.R_drew)); exact HO253.out⟩, ⟨by repeat (first | (with_reducible first | exact HB.out | apply below_alloc | apply pw_below_drewN | apply below_drew1) | exact HB.out)⟩⟩
               ·rw [if_neg c170] at H
                exact absurd H (by simp)
              ·rw [if_neg c169] at H
               have c169b0 : (a1 == 3) = false := beq_eq_false_iff_ne.mpr c169
               have c169b1 : (a1 != 3) = true := bne_iff_ne.mpr c169
               have H' := Aside0.mk H
               clear H
               go_wp2
               go_roundg k2
               case measure => have := HK1.out; have := HK2.out; omega
               case rel => exact ⟨(x7_2), (wrap64 (x9_2 + 1)), (by first | rfl | (simp; done) | (simp [*]; done)), H', ⟨by have := HK1.out; have := HK2.out; omega⟩, ⟨by (with_reducible repeat (first | apply Kd.R_alloc | apply Kd.R_drewN | apply Kd.R_drew)); exact HO_7.out⟩, ⟨by repeat (first | (with_reducible first | exact HB.out | apply below_alloc | apply pw_below_drewN | apply below_drew1) | exact HB.out)⟩⟩
            ·rw [if_neg c165] at H
             have c165b0 : (a1 == 2) = false := beq_eq_false_iff_ne.mpr c165
             have c165b1 : (a1 != 2) = true := bne_iff_ne.mpr c165
             by_cases c172 : a1 = 3
             ·rw [if_pos c172] at H
              have c172b0 : (a1 == 3) = true := beq_iff_eq.mpr c172
              have c172b1 : (a1 != 3) = false := bne_eq_false_iff_eq.mpr c172
              clear c172
              by_cases c173 : x7_2.length < 8796093022208
              ·rw [if_pos c173] at H
               have LMc173 := Aside0.mk c173
               clear c173
               obtain ⟨y254, hy254⟩ : ∃ y_ : List (S64), y_ = (x7_2 ++ [(⟨x8_1, x9_2⟩ : S64)]) := ⟨_, rfl⟩
               replace H : (spec_neWhole.l1 k2 a0 a1 a2 y254 x8_1 (wrap64 (x9_2 + 1))) = some r := by first | (rw [hy254]; with_reducible exact H) | (have H2_ := (Option.bind_some _ _).symm.trans H; rw [hy254]; with_reducible exact H2_) | (have H2_ := (Option.bind_some _ _).symm.trans H; with_reducible exact H2_) | with_reducible exact H | (rw [hy254]; exact H) | exact H
               have Ny254 := Aside0.mk hy254
               clear hy254
               have H' := Aside0.mk H
               clear H
               go_wp2_with (first | ((with_reducible refine gate_builtin (b := .append) (xs := #[.tmp 71, .tmp 75]) rfl ?_); at_builtin; refine Kd.R_append k64 (w0 := w) w.heap.size rfl (.tmp 71) (.tmp 75) 22 64 (.agg #[(.int .i64 0), (.int .i64 0)]) 16 rfl Try.underlying22 info64 rfl (by decide) (by omega) u7 x7_2 (⟨x8_1, x9_2⟩ : S64) [.int .i64 x8_1, .int .i64 x9_2] (fun _ => True) (fun _ => False) rfl rfl ?aP (fun _ hk => hk.elim) ?aF ?aO ?aB ?aS ?aL ?_; (case aP => exact k64_mkM _ _ _ (⟨x8_1, x9_2⟩ : S64)); (case aB => exact (by repeat (first | (with_reducible first | exact HB.out | apply below_alloc | apply pw_below_drewN | apply below_drew1) | exact HB.out))); (case aF => exact (fun _ _ => trivial)); (case aO => exact (by (with_reducible repeat (first | apply Kd.R_alloc | apply Kd.R_drewN | apply Kd.R_drew)); exact HO_7.out)); (case aS => exact (below_size (by repeat (first | (with_reducible first | exact HB.out | apply below_alloc | apply pw_below_drewN | apply below_drew1) | exact HB.out)))); (case aL => have := LMc173.out; omega); intro v255 w174 ho hb hg hat; rw [← Ny254.out] at ho; have n0_ := Aside0.mk (hb); have n1_ := Aside0.mk (ho); clear HB; clear HO_7; have HB := n0_; have HO256 := n1_; clear n0_ n1_; clear ho hb hg hat))
               go_roundg k2
               case measure => have := HK1.out; have := HK2.out; omega
               case rel => exact ⟨(y254), (wrap64 (x9_2 + 1)), (by first | rfl | (simp; done) | (simp [*]; done)), H', ⟨by have := HK1.out; have := HK2.out; omega⟩, ⟨by (with_reducible repeat (first | apply Kd.R_alloc | apply Kd.R_drewN | apply Kd.R_drew)); exact HO256.out⟩, ⟨by repeat (first | (with_reducible first | exact HB.out | apply below_alloc | apply pw_below_drewN | apply below_drew1) | exact HB.out)⟩⟩
              ·rw [if_neg c173] at H
               exact absurd H (by simp)
             ·rw [if_neg c172] at H
              have c172b0 : (a1 == 3) = false := beq_eq_false_iff_ne.mpr c172
              have c172b1 : (a1 != 3) = true := bne_iff_ne.mpr c172
              have H' := Aside0.mk H
              clear H
              go_wp2
              go_roundg k2
              case measure => have := HK1.out; have := HK2.out; omega
              case rel => exact ⟨(x7_2), (wrap64 (x9_2 + 1)), (by first | rfl | (simp; done) | (simp [*]; done)), H', ⟨by have := HK1.out; have := HK2.out; omega⟩, ⟨by (with_reducible repeat (first | apply Kd.R_alloc | apply Kd.R_drewN | apply Kd.R_drew)); exact HO_7.out⟩, ⟨by repeat (first | (with_reducible first | exact HB.out | apply below_alloc | apply pw_below_drewN | apply below_drew1) | exact HB.out)⟩⟩
          ·rw [if_neg c161] at H
           have c161b0 : (a1 == 1) = false := beq_eq_false_iff_ne.mpr c161
           have c161b1 : (a1 != 1) = true := bne_iff_ne.mpr c161
           by_cases c175 : a1 = 2
           ·rw [if_pos c175] at H
            have c175b0 : (a1 == 2) = true := beq_iff_eq.mpr c175
            have c175b1 : (a1 != 2) = false := bne_eq_false_iff_eq.mpr c175
            clear c175
            by_cases c176 : x9_2 = a2
            ·rw [if_pos c176] at H
             have c176b0 : (x9_2 == a2) = true := beq_iff_eq.mpr c176
             have c176b1 : (x9_2 != a2) = false := bne_eq_false_iff_eq.mpr c176
             clear c176
             by_cases c177 : x7_2.length < 8796093022208
             ·rw [if_pos c177] at H
              have LMc177 := Aside0.mk c177
              clear c177
              obtain ⟨y257, hy257⟩ : ∃ y_ : List (S64), y_ = (x7_2 ++ [(⟨x8_1, x9_2⟩ : S64)]) := ⟨_, rfl⟩
              replace H : (spec_neWhole.l1 k2 a0 a1 a2 y257 x8_1 (wrap64 (x9_2 + 1))) = some r := by first | (rw [hy257]; with_reducible exact H) | (have H2_ := (Option.bind_some _ _).symm.trans H; rw [hy257]; with_reducible exact H2_) | (have H2_ := (Option.bind_some _ _).symm.trans H; with_reducible exact H2_) | with_reducible exact H | (rw [hy257]; exact H) | exact H
              have Ny257 := Aside0.mk hy257
              clear hy257
              have H' := Aside0.mk H
              clear H
              go_wp2_with (first | ((with_reducible refine gate_builtin (b := .append) (xs := #[.tmp 71, .tmp 75]) rfl ?_); at_builtin; refine Kd.R_append k64 (w0 := w) w.heap.size rfl (.tmp 71) (.tmp 75) 22 64 (.agg #[(.int .i64 0), (.int .i64 0)]) 16 rfl Try.underlying22 info64 rfl (by decide) (by omega) u7 x7_2 (⟨x8_1, x9_2⟩ : S64) [.int .i64 x8_1, .int .i64 x9_2] (fun _ => True) (fun _ => False) rfl rfl ?aP (fun _ hk => hk.elim) ?aF ?aO ?aB ?aS ?aL ?_; (case aP => exact k64_mkM _ _ _ (⟨x8_1, x9_2⟩ : S64)); (case aB => exact (by repeat (first | (with_reducible first | exact HB.out | apply below_alloc | apply pw_below_drewN | apply below_drew1) | exact HB.out))); (case aF => exact (fun _ _ => trivial)); (case aO => exact (by (with_reducible repeat (first | apply Kd.R_alloc | apply Kd.R_drewN | apply Kd.R_drew)); exact HO_7.out)); (case aS => exact (below_size (by repeat (first | (with_reducible first | exact HB.out | apply below_alloc | apply pw_below_drewN | apply below_drew1) | exact HB.out)))); (case aL => have := LMc177.out; omega); intro v258 w178 ho hb hg hat; rw [← Ny257.out] at ho; have n0_ := Aside0.mk (hb); have n1_ := Aside0.mk (ho); clear HB; clear HO_7; have HB := n0_; have HO259 := n1_; clear n0_ n1_; clear ho hb hg hat))
              go_roundg k2
              case measure => have := HK1.out; have := HK2.out; omega
              case rel => exact ⟨(y257), (wrap64 (x9_2 + 1)), (by first | rfl | (simp; done) | (simp [*]; done)), H', ⟨by have := HK1.out; have := HK2.out; omega⟩, ⟨by (with_reducible repeat (first | apply Kd.R_alloc | apply Kd.R_drewN | apply Kd.R_drew)); exact HO259.out⟩, ⟨by repeat (first | (with_reducible first | exact HB.out | apply below_alloc | apply pw_below_drewN | apply below_drew1) | exact HB.out)⟩⟩
             ·rw [if_neg c177] at H
              exact absurd H (by simp)
            ·rw [if_neg c176] at H
             have c176b0 : (x9_2 == a2) = false := beq_eq_false_iff_ne.mpr c176
             have c176b1 : (x9_2 != a2) = true := bne_iff_ne.mpr c176
             by_cases c179 : a1 = 3
             ·rw [if_pos c179] at H
              have c179b0 : (a1 == 3) = true := beq_iff_eq.mpr c179
              have c179b1 : (a1 != 3) = false := bne_eq_false_iff_eq.mpr c179
              clear c179
              by_cases c180 : x7_2.length < 8796093022208
              ·rw [if_pos c180] at H
               have LMc180 := Aside0.mk c180
               clear c180
               obtain ⟨y260, hy260⟩ : ∃ y_ : List (S64), y_ = (x7_2 ++ [(⟨x8_1, x9_2⟩ : S64)]) := ⟨_, rfl⟩
               replace H : (spec_neWhole.l1 k2 a0 a1 a2 y260 x8_1 (wrap64 (x9_2 + 1))) = some r := by first | (rw [hy260]; with_reducible exact H) | (have H2_ := (Option.bind_some _ _).symm.trans H; rw [hy260]; with_reducible exact H2_) | (have H2_ := (Option.bind_some _ _).symm.trans H; with_reducible exact H2_) | with_reducible exact H | (rw [hy260]; exact H) | exact H
               have Ny260 := Aside0.mk hy260
               clear hy260
               have H' := Aside0.mk H
               clear H
               go_wp2_with (first | ((with_reducible refine gate_builtin (b := .append) (xs := #[.tmp 71, .tmp 75]) rfl ?_); at_builtin; refine Kd.R_append k64 (w0 := w) w.heap.size rfl (.tmp 71) (.tmp 75) 22 64 (.agg #[(.int .i64 0), (.int .i64 0)]) 16 rfl Try.underlying22 info64 rfl (by decide) (by omega) u7 x7_2 (⟨x8_1, x9_2⟩ : S64) [.int .i64 x8_1, .int .i64 x9_2] (fun _ => True) (fun _ => False) rfl rfl ?aP (fun _ hk => hk.elim) ?aF ?aO ?aB ?aS ?aL ?_; (case aP => exact k64_mkM _ _ _ (⟨x8_1, x9_2⟩ : S64)); (case aB => exact (by repeat (first | (with_reducible first | exact HB.out | apply below_alloc | apply pw_below_drewN | apply below_drew1) | exact HB.out))); (case aF => exact (fun _ _ => trivial)); (case aO => exact (by (with_reducible repeat (first | apply Kd.R_alloc | apply Kd.R_drewN | apply Kd.R_drew)); exact HO_7.out)); (case aS => exact (below_size (by repeat (first | (with_reducible first | exact HB.out | apply below_alloc | apply pw_below_drewN | apply below_drew1) | exact HB.out)))); (case aL => have := LMc180.out; omega); intro v261 w181 ho hb hg hat; rw [← Ny260.out] at ho; have n0_ := Aside0.mk (hb); have n1_ := Aside0.mk (ho); clear HB; clear HO_7; have HB := n0_; have HO262 := n1_; clear n0_ n1_; clear ho hb hg hat))
               go_roundg k2
               case measure => have := HK1.out; have := HK2.out; omega
               case rel => exact ⟨(y260), (wrap64 (x9_2 + 1)), (by first | rfl | (simp; done) | (simp [*]; done)), H', ⟨by have := HK1.out; have := HK2.out; omega⟩, ⟨by (with_reducible repeat (first | apply Kd.R_alloc | apply Kd.R_drewN | apply Kd.R_drew)); exact HO262.out⟩, ⟨by repeat (first | (with_reducible first | exact HB.out | apply below_alloc | apply pw_below_drewN | apply below_drew1) | exact HB.out)⟩⟩
              ·rw [if_neg c180] at H
               exact absurd H (by simp)
             ·rw [if_neg c179] at H
              have c179b0 : (a1 == 3) = false := beq_eq_false_iff_ne.mpr c179
              have c179b1 : (a1 != 3) = true := bne_iff_ne.mpr c179
              have H' := Aside0.mk H
              clear H
              go_wp2
              go_roundg k2
              case measure => have := HK1.out; have := HK2.out; omega
              case rel => exact ⟨(x7_2), (wrap64 (x9_2 + 1)), (by first | rfl | (simp; done) | (simp [*]; done)), H', ⟨by have := HK1.out; have := HK2.out; omega⟩, ⟨by (with_reducible repeat (first | apply Kd.R_alloc | apply Kd.R_drewN | apply Kd.R_drew)); exact HO_7.out⟩, ⟨by repeat (first | (with_reducible first | exact HB.out | apply below_alloc | apply pw_below_drewN | apply below_drew1) | exact HB.out)⟩⟩
           ·rw [if_neg c175] at H
            have c175b0 : (a1 == 2) = false := beq_eq_false_iff_ne.mpr c175
            have c175b1 : (a1 != 2) = true := bne_iff_ne.mpr c175
            by_cases c182 : a1 = 3
            ·rw [if_pos c182] at H
             have c182b0 : (a1 == 3) = true := beq_iff_eq.mpr c182
             have c182b1 : (a1 != 3) = false := bne_eq_false_iff_eq.mpr c182
             clear c182
             by_cases c183 : x7_2.length < 8796093022208
             ·rw [if_pos c183] at H
              have LMc183 := Aside0.mk c183
              clear c183
              obtain ⟨y263, hy263⟩ : ∃ y_ : List (S64), y_ = (x7_2 ++ [(⟨x8_1, x9_2⟩ : S64)]) := ⟨_, rfl⟩
              replace H : (spec_neWhole.l1 k2 a0 a1 a2 y263 x8_1 (wrap64 (x9_2 + 1))) = some r := by first | (rw [hy263]; with_reducible exact H) | (have H2_ := (Option.bind_some _ _).symm.trans H; rw [hy263]; with_reducible exact H2_) | (have H2_ := (Option.bind_some _ _).symm.trans H; with_reducible exact H2_) | with_reducible exact H | (rw [hy263]; exact H) | exact H
              have Ny263 := Aside0.mk hy263
              clear hy263
              have H' := Aside0.mk H
              clear H
              go_wp2_with (first | ((with_reducible refine gate_builtin (b := .append) (xs := #[.tmp 71, .tmp 75]) rfl ?_); at_builtin; refine Kd.R_append k64 (w0 := w) w.heap.size rfl (.tmp 71) (.tmp 75) 22 64 (.agg #[(.int .i64 0), (.int .i64 0)]) 16 rfl Try.underlying22 info64 rfl (by decide) (by omega) u7 x7_2 (⟨x8_1, x9_2⟩ : S64) [.int .i64 x8_1, .int .i64 x9_2] (fun _ => True) (fun _ => False) rfl rfl ?aP (fun _ hk => hk.elim) ?aF ?aO ?aB ?aS ?aL ?_; (case aP => exact k64_mkM _ _ _ (⟨x8_1, x9_2⟩ : S64)); (case aB => exact (by repeat (first | (with_reducible first | exact HB.out | apply below_alloc | apply pw_below_drewN | apply below_drew1) | exact HB.out))); (case aF => exact (fun _ _ => trivial)); (case aO => exact (by (with_reducible repeat (first | apply Kd.R_alloc | apply Kd.R_drewN | apply Kd.R_drew)); exact HO_7.out)); (case aS => exact (below_size (by repeat (first | (with_reducible first | exact HB.out | apply below_alloc | apply pw_below_drewN | apply below_drew1) | exact HB.out)))); (case aL => have := LMc183.out; omega); intro v264 w184 ho hb hg hat; rw [← Ny263.out] at ho; have n0_ := Aside0.mk (hb); have n1_ := Aside0.mk (ho); clear HB; clear HO_7; have HB := n0_; have HO265 := n1_; clear n0_ n1_; clear ho hb hg hat))
              go_roundg k2
              case measure => have := HK1.out; have := HK2.out; omega
              case rel => exact ⟨(y263), (wrap64 (x9_2 + 1)), (by first | rfl | (simp; done) | (simp [*]; done)), H', ⟨by have := HK1.out; have := HK2.out; omega⟩, ⟨by (with_reducible repeat (first | apply Kd.R_alloc | apply Kd.R_drewN | apply Kd.R_drew)); exact HO265.out⟩, ⟨by repeat (first | (with_reducible first | exact HB.out | apply below_alloc | apply pw_below_drewN | apply below_drew1) | exact HB.out)⟩⟩
             ·rw [if_neg c183] at H
              exact absurd H (by simp)
            ·rw [if_neg c182] at H
             have c182b0 : (a1 == 3) = false := beq_eq_false_iff_ne.mpr c182
             have c182b1 : (a1 != 3) = true := bne_iff_ne.mpr c182
             have H' := Aside0.mk H
             clear H
             go_wp2
             go_roundg k2
             case measure => have := HK1.out; have := HK2.out; omega
             case rel => exact ⟨(x7_2), (wrap64 (x9_2 + 1)), (by first | rfl | (simp; done) | (simp [*]; done)), H', ⟨by have := HK1.out; have := HK2.out; omega⟩, ⟨by (with_reducible repeat (first | apply Kd.R_alloc | apply Kd.R_drewN | apply Kd.R_drew)); exact HO_7.out⟩, ⟨by repeat (first | (with_reducible first | exact HB.out | apply below_alloc | apply pw_below_drewN | apply below_drew1) | exact HB.out)⟩⟩
      ·rw [if_neg c5] at H
       have c5b0 : decide (x9_2 < a0) = false := decide_eq_false c5
       clear c5
       have H' := Aside0.mk H
       clear H
       go_wp2
       go_roundg k2
       case measure => have := HK1.out; have := HK2.out; omega
       case rel => exact ⟨(x7_2), (wrap64 (x8_1 + 1)), (by first | rfl | (simp; done) | (simp [*]; done)), H', ⟨by have := HK1.out; have := HK2.out; omega⟩, ⟨by (with_reducible repeat (first | apply Kd.R_alloc | apply Kd.R_drewN | apply Kd.R_drew)); exact HO_7.out⟩, ⟨by repeat (first | (with_reducible first | exact HB.out | apply below_alloc | apply pw_below_drewN | apply below_drew1) | exact HB.out)⟩⟩
   ·rw [if_neg c4] at H
    have c4b0 : decide (x8_1 < a0) = false := decide_eq_false c4
    clear c4
    obtain rfl := Option.some.inj H
    go_wp2
    go_ret
    exact ⟨_, by first | rfl | (simp [errW_none, errW_some] <;> rfl) | (simp [*, errW_none, errW_some] <;> rfl), by (with_reducible repeat (first | apply Kd.R_alloc | apply Kd.R_drewN | apply Kd.R_drew)); exact HO_7.out, by repeat (first | (with_reducible first | exact HB.out | apply below_alloc | apply pw_below_drewN | apply below_drew1) | exact HB.out)⟩

end Go.Proofs.Ytelhjfalkhmhkaa.PFnExactCircleNet
