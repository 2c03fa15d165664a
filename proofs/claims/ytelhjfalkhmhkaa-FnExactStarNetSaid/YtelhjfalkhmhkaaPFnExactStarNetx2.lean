-- Written by the session's mkprint.py over the kit's print.py (function texts marked OURS are the session's own).
import Derived.Test.YtelhjfalkhmhkaaPFnExactStarNetx0
namespace Go.Proofs.Ytelhjfalkhmhkaa.PFnExactStarNet
open Go.RowKit Go.Proofs.YtelhjfalkhmhkaaW.PrintWords Go.Proofs.YtelhjfalkhmhkaaW.PrintLast Go.Proofs.YtelhjfalkhmhkaaW.PrintMore
attribute [local go_sem] max2_int min2_int max_two min_two max_three min_three max_four min_four   -- for this text's walks alone
set_option linter.unusedVariables false
set_option linter.unusedSimpArgs false

/-! ### spec_neWhole: function 48 -/
mutual
def spec_neWhole.l0 : Nat → Int → Int → Int → List (S64) → Int → Option ((List (S64)))
  | 0, _, _, _, _, _ => none
  | k + 1, x0, x1, x2, x7, x8 => if x8 < x0 then (spec_neWhole.l1 k x0 x1 x2 x7 x8 (wrap64 (x8 + 1))) else (some x7)
def spec_neWhole.l1 : Nat → Int → Int → Int → List (S64) → Int → Int → Option ((List (S64)))
  | 0, _, _, _, _, _, _ => none
  | k + 1, x0, x1, x2, x7, x8, x9 => if x9 < x0 then (if x8 = 0 then (if x8 = x2 then (if x1 = 0 then (if x9 = (wrap64 (x8 + 1)) then (if x7.length < 8796093022208 then (spec_neWhole.l1 k x0 x1 x2 (x7 ++ [(⟨x8, x9⟩ : S64)]) x8 (wrap64 (x9 + 1))) else (none)) else (if x1 = 1 then (if x9 = (wrap64 (x0 - 1)) then (if x7.length < 8796093022208 then (spec_neWhole.l1 k x0 x1 x2 (x7 ++ [(⟨x8, x9⟩ : S64)]) x8 (wrap64 (x9 + 1))) else (none)) else (if x1 = 2 then (if x7.length < 8796093022208 then (spec_neWhole.l1 k x0 x1 x2 (x7 ++ [(⟨x8, x9⟩ : S64)]) x8 (wrap64 (x9 + 1))) else (none)) else (if x1 = 3 then (if x7.length < 8796093022208 then (spec_neWhole.l1 k x0 x1 x2 (x7 ++ [(⟨x8, x9⟩ : S64)]) x8 (wrap64 (x9 + 1))) else (none)) else (spec_neWhole.l1 k x0 x1 x2 x7 x8 (wrap64 (x9 + 1)))))) else (if x1 = 2 then (if x7.length < 8796093022208 then (spec_neWhole.l1 k x0 x1 x2 (x7 ++ [(⟨x8, x9⟩ : S64)]) x8 (wrap64 (x9 + 1))) else (none)) else (if x1 = 3 then (if x7.length < 8796093022208 then (spec_neWhole.l1 k x0 x1 x2 (x7 ++ [(⟨x8, x9⟩ : S64)]) x8 (wrap64 (x9 + 1))) else (none)) else (spec_neWhole.l1 k x0 x1 x2 x7 x8 (wrap64 (x9 + 1))))))) else (if x1 = 1 then (if x9 = (wrap64 (x8 + 1)) then (if x7.length < 8796093022208 then (spec_neWhole.l1 k x0 x1 x2 (x7 ++ [(⟨x8, x9⟩ : S64)]) x8 (wrap64 (x9 + 1))) else (none)) else (if x9 = (wrap64 (x0 - 1)) then (if x7.length < 8796093022208 then (spec_neWhole.l1 k x0 x1 x2 (x7 ++ [(⟨x8, x9⟩ : S64)]) x8 (wrap64 (x9 + 1))) else (none)) else (if x1 = 2 then (if x7.length < 8796093022208 then (spec_neWhole.l1 k x0 x1 x2 (x7 ++ [(⟨x8, x9⟩ : S64)]) x8 (wrap64 (x9 + 1))) else (none)) else (if x1 = 3 then (if x7.length < 8796093022208 then (spec_neWhole.l1 k x0 x1 x2 (x7 ++ [(⟨x8, x9⟩ : S64)]) x8 (wrap64 (x9 + 1))) else (none)) else (spec_neWhole.l1 k x0 x1 x2 x7 x8 (wrap64 (x9 + 1))))))) else (if x1 = 2 then (if x7.length < 8796093022208 then (spec_neWhole.l1 k x0 x1 x2 (x7 ++ [(⟨x8, x9⟩ : S64)]) x8 (wrap64 (x9 + 1))) else (none)) else (if x1 = 3 then (if x7.length < 8796093022208 then (spec_neWhole.l1 k x0 x1 x2 (x7 ++ [(⟨x8, x9⟩ : S64)]) x8 (wrap64 (x9 + 1))) else (none)) else (spec_neWhole.l1 k x0 x1 x2 x7 x8 (wrap64 (x9 + 1))))))) else (if x1 = 0 then (if x9 = (wrap64 (x8 + 1)) then (if x7.length < 8796093022208 then (spec_neWhole.l1 k x0 x1 x2 (x7 ++ [(⟨x8, x9⟩ : S64)]) x8 (wrap64 (x9 + 1))) else (none)) else (if x1 = 1 then (if x9 = (wrap64 (x0 - 1)) then (if x7.length < 8796093022208 then (spec_neWhole.l1 k x0 x1 x2 (x7 ++ [(⟨x8, x9⟩ : S64)]) x8 (wrap64 (x9 + 1))) else (none)) else (if x1 = 2 then (if x9 = x2 then (if x7.length < 8796093022208 then (spec_neWhole.l1 k x0 x1 x2 (x7 ++ [(⟨x8, x9⟩ : S64)]) x8 (wrap64 (x9 + 1))) else (none)) else (if x1 = 3 then (if x7.length < 8796093022208 then (spec_neWhole.l1 k x0 x1 x2 (x7 ++ [(⟨x8, x9⟩ : S64)]) x8 (wrap64 (x9 + 1))) else (none)) else (spec_neWhole.l1 k x0 x1 x2 x7 x8 (wrap64 (x9 + 1))))) else (if x1 = 3 then (if x7.length < 8796093022208 then (spec_neWhole.l1 k x0 x1 x2 (x7 ++ [(⟨x8, x9⟩ : S64)]) x8 (wrap64 (x9 + 1))) else (none)) else (spec_neWhole.l1 k x0 x1 x2 x7 x8 (wrap64 (x9 + 1)))))) else (if x1 = 2 then (if x9 = x2 then (if x7.length < 8796093022208 then (spec_neWhole.l1 k x0 x1 x2 (x7 ++ [(⟨x8, x9⟩ : S64)]) x8 (wrap64 (x9 + 1))) else (none)) else (if x1 = 3 then (if x7.length < 8796093022208 then (spec_neWhole.l1 k x0 x1 x2 (x7 ++ [(⟨x8, x9⟩ : S64)]) x8 (wrap64 (x9 + 1))) else (none)) else (spec_neWhole.l1 k x0 x1 x2 x7 x8 (wrap64 (x9 + 1))))) else (if x1 = 3 then (if x7.length < 8796093022208 then (spec_neWhole.l1 k x0 x1 x2 (x7 ++ [(⟨x8, x9⟩ : S64)]) x8 (wrap64 (x9 + 1))) else (none)) else (spec_neWhole.l1 k x0 x1 x2 x7 x8 (wrap64 (x9 + 1))))))) else (if x1 = 1 then (if x9 = (wrap64 (x8 + 1)) then (if x7.length < 8796093022208 then (spec_neWhole.l1 k x0 x1 x2 (x7 ++ [(⟨x8, x9⟩ : S64)]) x8 (wrap64 (x9 + 1))) else (none)) else (if x9 = (wrap64 (x0 - 1)) then (if x7.length < 8796093022208 then (spec_neWhole.l1 k x0 x1 x2 (x7 ++ [(⟨x8, x9⟩ : S64)]) x8 (wrap64 (x9 + 1))) else (none)) else (if x1 = 2 then (if x9 = x2 then (if x7.length < 8796093022208 then (spec_neWhole.l1 k x0 x1 x2 (x7 ++ [(⟨x8, x9⟩ : S64)]) x8 (wrap64 (x9 + 1))) else (none)) else (if x1 = 3 then (if x7.length < 8796093022208 then (spec_neWhole.l1 k x0 x1 x2 (x7 ++ [(⟨x8, x9⟩ : S64)]) x8 (wrap64 (x9 + 1))) else (none)) else (spec_neWhole.l1 k x0 x1 x2 x7 x8 (wrap64 (x9 + 1))))) else (if x1 = 3 then (if x7.length < 8796093022208 then (spec_neWhole.l1 k x0 x1 x2 (x7 ++ [(⟨x8, x9⟩ : S64)]) x8 (wrap64 (x9 + 1))) else (none)) else (spec_neWhole.l1 k x0 x1 x2 x7 x8 (wrap64 (x9 + 1))))))) else (if x1 = 2 then (if x9 = x2 then (if x7.length < 8796093022208 then (spec_neWhole.l1 k x0 x1 x2 (x7 ++ [(⟨x8, x9⟩ : S64)]) x8 (wrap64 (x9 + 1))) else (none)) else (if x1 = 3 then (if x7.length < 8796093022208 then (spec_neWhole.l1 k x0 x1 x2 (x7 ++ [(⟨x8, x9⟩ : S64)]) x8 (wrap64 (x9 + 1))) else (none)) else (spec_neWhole.l1 k x0 x1 x2 x7 x8 (wrap64 (x9 + 1))))) else (if x1 = 3 then (if x7.length < 8796093022208 then (spec_neWhole.l1 k x0 x1 x2 (x7 ++ [(⟨x8, x9⟩ : S64)]) x8 (wrap64 (x9 + 1))) else (none)) else (spec_neWhole.l1 k x0 x1 x2 x7 x8 (wrap64 (x9 + 1)))))))) else (if x8 = x2 then (if x1 = 0 then (if x9 = (wrap64 (x8 + 1)) then (if x7.length < 8796093022208 then (spec_neWhole.l1 k x0 x1 x2 (x7 ++ [(⟨x8, x9⟩ : S64)]) x8 (wrap64 (x9 + 1))) else (none)) else (if x1 = 1 then (if x1 = 2 then (if x7.length < 8796093022208 then (spec_neWhole.l1 k x0 x1 x2 (x7 ++ [(⟨x8, x9⟩ : S64)]) x8 (wrap64 (x9 + 1))) else (none)) else (if x1 = 3 then (if x7.length < 8796093022208 then (spec_neWhole.l1 k x0 x1 x2 (x7 ++ [(⟨x8, x9⟩ : S64)]) x8 (wrap64 (x9 + 1))) else (none)) else (spec_neWhole.l1 k x0 x1 x2 x7 x8 (wrap64 (x9 + 1))))) else (if x1 = 2 then (if x7.length < 8796093022208 then (spec_neWhole.l1 k x0 x1 x2 (x7 ++ [(⟨x8, x9⟩ : S64)]) x8 (wrap64 (x9 + 1))) else (none)) else (if x1 = 3 then (if x7.length < 8796093022208 then (spec_neWhole.l1 k x0 x1 x2 (x7 ++ [(⟨x8, x9⟩ : S64)]) x8 (wrap64 (x9 + 1))) else (none)) else (spec_neWhole.l1 k x0 x1 x2 x7 x8 (wrap64 (x9 + 1))))))) else (if x1 = 1 then (if x9 = (wrap64 (x8 + 1)) then (if x7.length < 8796093022208 then (spec_neWhole.l1 k x0 x1 x2 (x7 ++ [(⟨x8, x9⟩ : S64)]) x8 (wrap64 (x9 + 1))) else (none)) else (if x1 = 2 then (if x7.length < 8796093022208 then (spec_neWhole.l1 k x0 x1 x2 (x7 ++ [(⟨x8, x9⟩ : S64)]) x8 (wrap64 (x9 + 1))) else (none)) else (if x1 = 3 then (if x7.length < 8796093022208 then (spec_neWhole.l1 k x0 x1 x2 (x7 ++ [(⟨x8, x9⟩ : S64)]) x8 (wrap64 (x9 + 1))) else (none)) else (spec_neWhole.l1 k x0 x1 x2 x7 x8 (wrap64 (x9 + 1)))))) else (if x1 = 2 then (if x7.length < 8796093022208 then (spec_neWhole.l1 k x0 x1 x2 (x7 ++ [(⟨x8, x9⟩ : S64)]) x8 (wrap64 (x9 + 1))) else (none)) else (if x1 = 3 then (if x7.length < 8796093022208 then (spec_neWhole.l1 k x0 x1 x2 (x7 ++ [(⟨x8, x9⟩ : S64)]) x8 (wrap64 (x9 + 1))) else (none)) else (spec_neWhole.l1 k x0 x1 x2 x7 x8 (wrap64 (x9 + 1))))))) else (if x1 = 0 then (if x9 = (wrap64 (x8 + 1)) then (if x7.length < 8796093022208 then (spec_neWhole.l1 k x0 x1 x2 (x7 ++ [(⟨x8, x9⟩ : S64)]) x8 (wrap64 (x9 + 1))) else (none)) else (if x1 = 1 then (if x1 = 2 then (if x9 = x2 then (if x7.length < 8796093022208 then (spec_neWhole.l1 k x0 x1 x2 (x7 ++ [(⟨x8, x9⟩ : S64)]) x8 (wrap64 (x9 + 1))) else (none)) else (if x1 = 3 then (if x7.length < 8796093022208 then (spec_neWhole.l1 k x0 x1 x2 (x7 ++ [(⟨x8, x9⟩ : S64)]) x8 (wrap64 (x9 + 1))) else (none)) else (spec_neWhole.l1 k x0 x1 x2 x7 x8 (wrap64 (x9 + 1))))) else (if x1 = 3 then (if x7.length < 8796093022208 then (spec_neWhole.l1 k x0 x1 x2 (x7 ++ [(⟨x8, x9⟩ : S64)]) x8 (wrap64 (x9 + 1))) else (none)) else (spec_neWhole.l1 k x0 x1 x2 x7 x8 (wrap64 (x9 + 1))))) else (if x1 = 2 then (if x9 = x2 then (if x7.length < 8796093022208 then (spec_neWhole.l1 k x0 x1 x2 (x7 ++ [(⟨x8, x9⟩ : S64)]) x8 (wrap64 (x9 + 1))) else (none)) else (if x1 = 3 then (if x7.length < 8796093022208 then (spec_neWhole.l1 k x0 x1 x2 (x7 ++ [(⟨x8, x9⟩ : S64)]) x8 (wrap64 (x9 + 1))) else (none)) else (spec_neWhole.l1 k x0 x1 x2 x7 x8 (wrap64 (x9 + 1))))) else (if x1 = 3 then (if x7.length < 8796093022208 then (spec_neWhole.l1 k x0 x1 x2 (x7 ++ [(⟨x8, x9⟩ : S64)]) x8 (wrap64 (x9 + 1))) else (none)) else (spec_neWhole.l1 k x0 x1 x2 x7 x8 (wrap64 (x9 + 1))))))) else (if x1 = 1 then (if x9 = (wrap64 (x8 + 1)) then (if x7.length < 8796093022208 then (spec_neWhole.l1 k x0 x1 x2 (x7 ++ [(⟨x8, x9⟩ : S64)]) x8 (wrap64 (x9 + 1))) else (none)) else (if x1 = 2 then (if x9 = x2 then (if x7.length < 8796093022208 then (spec_neWhole.l1 k x0 x1 x2 (x7 ++ [(⟨x8, x9⟩ : S64)]) x8 (wrap64 (x9 + 1))) else (none)) else (if x1 = 3 then (if x7.length < 8796093022208 then (spec_neWhole.l1 k x0 x1 x2 (x7 ++ [(⟨x8, x9⟩ : S64)]) x8 (wrap64 (x9 + 1))) else (none)) else (spec_neWhole.l1 k x0 x1 x2 x7 x8 (wrap64 (x9 + 1))))) else (if x1 = 3 then (if x7.length < 8796093022208 then (spec_neWhole.l1 k x0 x1 x2 (x7 ++ [(⟨x8, x9⟩ : S64)]) x8 (wrap64 (x9 + 1))) else (none)) else (spec_neWhole.l1 k x0 x1 x2 x7 x8 (wrap64 (x9 + 1)))))) else (if x1 = 2 then (if x9 = x2 then (if x7.length < 8796093022208 then (spec_neWhole.l1 k x0 x1 x2 (x7 ++ [(⟨x8, x9⟩ : S64)]) x8 (wrap64 (x9 + 1))) else (none)) else (if x1 = 3 then (if x7.length < 8796093022208 then (spec_neWhole.l1 k x0 x1 x2 (x7 ++ [(⟨x8, x9⟩ : S64)]) x8 (wrap64 (x9 + 1))) else (none)) else (spec_neWhole.l1 k x0 x1 x2 x7 x8 (wrap64 (x9 + 1))))) else (if x1 = 3 then (if x7.length < 8796093022208 then (spec_neWhole.l1 k x0 x1 x2 (x7 ++ [(⟨x8, x9⟩ : S64)]) x8 (wrap64 (x9 + 1))) else (none)) else (spec_neWhole.l1 k x0 x1 x2 x7 x8 (wrap64 (x9 + 1))))))))) else (spec_neWhole.l0 k x0 x1 x2 x7 (wrap64 (x8 + 1)))
end
def spec_neWhole.f (k : Nat) (a0 : Int) (a1 : Int) (a2 : Int) : Option ((List (S64))) := spec_neWhole.l0 k a0 a1 a2 ([] : List (S64)) 0
theorem spec_neWhole.mono_l : ∀ k, (∀ y0 y1 y2 y3 y4, LeO (spec_neWhole.l0 k y0 y1 y2 y3 y4) (spec_neWhole.l0 (k + 1) y0 y1 y2 y3 y4)) ∧ (∀ y0 y1 y2 y3 y4 y5, LeO (spec_neWhole.l1 k y0 y1 y2 y3 y4 y5) (spec_neWhole.l1 (k + 1) y0 y1 y2 y3 y4 y5))
  | 0 => ⟨fun _ _ _ _ _ r h => by simp [spec_neWhole.l0] at h, fun _ _ _ _ _ _ r h => by simp [spec_neWhole.l1] at h⟩
  | k + 1 => by
    obtain ⟨ih0, ih1⟩ := spec_neWhole.mono_l k
    refine ⟨?_, ?_⟩
    · intro y0 y1 y2 y3 y4
      unfold spec_neWhole.l0
      repeat' first
      | (with_reducible exact ih0 _ _ _ _ _)
      | (with_reducible exact ih1 _ _ _ _ _ _)
      | (with_reducible exact LeO.refl _)
      | (with_reducible exact LeO.none _)
      | (with_reducible refine LeO.ite ?_ ?_)
      | (with_reducible refine LeO.bind ?_ (fun _ => ?_))
      | exact ih0 _ _ _ _ _
      | exact ih1 _ _ _ _ _ _
      | exact LeO.none _
      | refine LeO.ite ?_ ?_
      | refine LeO.bind ?_ (fun _ => ?_)
    · intro y0 y1 y2 y3 y4 y5
      unfold spec_neWhole.l1
      repeat' first
      | (with_reducible exact ih0 _ _ _ _ _)
      | (with_reducible exact ih1 _ _ _ _ _ _)
      | (with_reducible exact LeO.refl _)
      | (with_reducible exact LeO.none _)
      | (with_reducible refine LeO.ite ?_ ?_)
      | (with_reducible refine LeO.bind ?_ (fun _ => ?_))
      | exact ih0 _ _ _ _ _
      | exact ih1 _ _ _ _ _ _
      | exact LeO.none _
      | refine LeO.ite ?_ ?_
      | refine LeO.bind ?_ (fun _ => ?_)
theorem spec_neWhole.mono : ∀ a0 a1 a2 k, LeO (spec_neWhole.f k a0 a1 a2) (spec_neWhole.f (k + 1) a0 a1 a2) := by
  intro a0 a1 a2 k
  obtain ⟨ih0, ih1⟩ := spec_neWhole.mono_l k
  unfold spec_neWhole.f
  repeat' first
      | (with_reducible exact ih0 _ _ _ _ _)
      | (with_reducible exact ih1 _ _ _ _ _ _)
      | (with_reducible exact LeO.refl _)
      | (with_reducible exact LeO.none _)
      | (with_reducible refine LeO.ite ?_ ?_)
      | (with_reducible refine LeO.bind ?_ (fun _ => ?_))
      | exact ih0 _ _ _ _ _
      | exact ih1 _ _ _ _ _ _
      | exact LeO.none _
      | refine LeO.ite ?_ ?_
      | refine LeO.bind ?_ (fun _ => ?_)
set_option maxHeartbeats 8000000 in
set_option maxRecDepth 100000 in
theorem spec_neWhole.calls (k : Nat) (a0 : Int) (a1 : Int) (a2 : Int) (r : List (S64)) (w : World) (h : spec_neWhole.f k a0 a1 a2 = some r) :
    Calls Try.prog 48 #[.int .i64 a0, .int .i64 a1, .int .i64 a2] w fun e w' => ∃ v0_ : Value, e = .returned (v0_) ∧ Kd.R k64 64 w' w.heap.size (fun _ => True) v0_ r ∧ Below w.heap.size w w' := by
  have hu64 := Try.underlying64
  have HB := Aside0.mk (Below.refl w.heap.size w)
  have H : (spec_neWhole.l0 k a0 a1 a2 ([] : List (S64)) 0) = some r := h
  clear h
  have H' := Aside0.mk H
  clear H
  go_enter Try.func48, Try.ntmps48
  go_wp2
  go_loopg [7, 8] k (fun kq v7 v8 w' => ∃ (x7_1 : List (S64)) (x8_1 : Int), v8 = .int .i64 x8_1 ∧ Aside0 (spec_neWhole.l0 kq a0 a1 a2 x7_1 x8_1 = some r) ∧ Aside0 (kq ≤ k) ∧ Aside0 (Kd.R k64 64 w' w.heap.size (fun _ => True) v7 x7_1) ∧ Aside0 (Below w.heap.size w w'))
  case atStart => exact ⟨(([] : List (S64))), (0), (by first | rfl | (simp; done) | (simp [*]; done)), H', ⟨Nat.le_refl _⟩, ⟨by first | exact Kd.R_nil _ _ _ _ _ | exact Kd.N_nil _ _ _ _ _ | exact Kd.V_nil _ _ _ _ _ | exact Kd.Q_nil _ _ _ _ _ | exact Kd.S_nil _ _ _ _ _⟩, ⟨by repeat (first | (with_reducible first | exact HB.out | apply below_alloc | apply pw_below_drewN | apply below_drew1) | exact HB.out)⟩⟩
  case round =>
    clear H'
    try clear p2
    obtain ⟨x7_1, x8_1, rfl, HA, HK1, HO_7, HB⟩ := hrel
    cases gk with
    | zero => exact absurd HA.out (by simp [spec_neWhole.l0])
    | succ k1 =>
      have H := HA.out
      clear HA
      simp only [spec_neWhole.l0] at H
      by_cases c4 : x8_1 < a0
      · rw [if_pos c4] at H
        have c4b0 : decide (x8_1 < a0) = true := decide_eq_true c4
        clear c4
        have H' := Aside0.mk H
        clear H
        go_wp2
        go_loopg [7, 9] k1 (fun kq v7 v9 w' => ∃ (x7_2 : List (S64)) (x9_2 : Int), v9 = .int .i64 x9_2 ∧ Aside0 (spec_neWhole.l1 kq a0 a1 a2 x7_2 x8_1 x9_2 = some r) ∧ Aside0 (kq ≤ k1) ∧ Aside0 (Kd.R k64 64 w' w.heap.size (fun _ => True) v7 x7_2) ∧ Aside0 (Below w.heap.size w w'))
        case atStart => exact ⟨(x7_1), (wrap64 (x8_1 + 1)), (by first | rfl | (simp; done) | (simp [*]; done)), H', ⟨Nat.le_refl _⟩, ⟨by (with_reducible repeat (first | apply Kd.R_alloc | apply Kd.R_drewN | apply Kd.R_drew)); exact HO_7.out⟩, ⟨by repeat (first | (with_reducible first | exact HB.out | apply below_alloc | apply pw_below_drewN | apply below_drew1) | exact HB.out)⟩⟩
        case round =>
          clear H'
          try clear p2
          try clear c4
          try clear c4b0
          try clear p2
          obtain ⟨x7_2, x9_2, rfl, HA, HK2, HO_7, HB⟩ := hrel
          cases gk with
          | zero => exact absurd HA.out (by simp [spec_neWhole.l1])
          | succ k2 =>
            have H := HA.out
            clear HA
            simp only [spec_neWhole.l1] at H
            by_cases c5 : x9_2 < a0
            · rw [if_pos c5] at H
              have c5b0 : decide (x9_2 < a0) = true := decide_eq_true c5
              clear c5
              by_cases c6 : x8_1 = 0
              · rw [if_pos c6] at H
                have c6b0 : (x8_1 == 0) = true := beq_iff_eq.mpr c6
                have c6b1 : (x8_1 != 0) = false := bne_eq_false_iff_eq.mpr c6
                clear c6
                by_cases c7 : x8_1 = a2
                · rw [if_pos c7] at H
                  have c7b0 : (x8_1 == a2) = true := beq_iff_eq.mpr c7
                  have c7b1 : (x8_1 != a2) = false := bne_eq_false_iff_eq.mpr c7
                  clear c7
                  by_cases c8 : a1 = 0
                  · rw [if_pos c8] at H
                    have c8b0 : (a1 == 0) = true := beq_iff_eq.mpr c8
                    have c8b1 : (a1 != 0) = false := bne_eq_false_iff_eq.mpr c8
                    clear c8
                    by_cases c9 : x9_2 = (wrap64 (x8_1 + 1))
                    · rw [if_pos c9] at H
                      have c9b0 : (x9_2 == (wrap64 (x8_1 + 1))) = true := beq_iff_eq.mpr c9
                      have c9b1 : (x9_2 != (wrap64 (x8_1 + 1))) = false := bne_eq_false_iff_eq.mpr c9
                      clear c9
                      by_cases c10 : x7_2.length < 8796093022208
                      · rw [if_pos c10] at H
                        have LMc10 := Aside0.mk c10
                        clear c10
                        obtain ⟨y102, hy102⟩ : ∃ y_ : List (S64), y_ = (x7_2 ++ [(⟨x8_1, x9_2⟩ : S64)]) := ⟨_, rfl⟩
                        replace H : (spec_neWhole.l1 k2 a0 a1 a2 y102 x8_1 (wrap64 (x9_2 + 1))) = some r := by first | (rw [hy102]; with_reducible exact H) | (have H2_ := (Option.bind_some _ _).symm.trans H; rw [hy102]; with_reducible exact H2_) | (have H2_ := (Option.bind_some _ _).symm.trans H; with_reducible exact H2_) | with_reducible exact H | (rw [hy102]; exact H) | exact H
                        have Ny102 := Aside0.mk hy102
                        clear hy102
                        have H' := Aside0.mk H
                        clear H
                        go_wp2_with (first | ((with_reducible refine gate_builtin (b := .append) (xs := #[.tmp 71, .tmp 75]) rfl ?_); at_builtin; refine Kd.R_append k64 (w0 := w) w.heap.size rfl (.tmp 71) (.tmp 75) 22 64 (.agg #[(.int .i64 0), (.int .i64 0)]) 16 rfl Try.underlying22 info64 rfl (by decide) (by omega) u7 x7_2 (⟨x8_1, x9_2⟩ : S64) [.int .i64 x8_1, .int .i64 x9_2] (fun _ => True) (fun _ => False) rfl rfl ?aP (fun _ hk => hk.elim) ?aF ?aO ?aB ?aS ?aL ?_; (case aP => exact k64_mkM _ _ _ (⟨x8_1, x9_2⟩ : S64)); (case aB => exact (by repeat (first | (with_reducible first | exact HB.out | apply below_alloc | apply pw_below_drewN | apply below_drew1) | exact HB.out))); (case aF => exact (fun _ _ => trivial)); (case aO => exact (by (with_reducible repeat (first | apply Kd.R_alloc | apply Kd.R_drewN | apply Kd.R_drew)); exact HO_7.out)); (case aS => exact (below_size (by repeat (first | (with_reducible first | exact HB.out | apply below_alloc | apply pw_below_drewN | apply below_drew1) | exact HB.out)))); (case aL => have := LMc10.out; omega); intro v103 w11 ho hb hg hat; rw [← Ny102.out] at ho; have n0_ := Aside0.mk (hb); have n1_ := Aside0.mk (ho); clear HB; clear HO_7; have HB := n0_; have HO104 := n1_; clear n0_ n1_; clear ho hb hg hat))
                        go_roundg k2
                        case measure => have := HK1.out; have := HK2.out; omega
                        case rel => exact ⟨(y102), (wrap64 (x9_2 + 1)), (by first | rfl | (simp; done) | (simp [*]; done)), H', ⟨by have := HK1.out; have := HK2.out; omega⟩, ⟨by (with_reducible repeat (first | apply Kd.R_alloc | apply Kd.R_drewN | apply Kd.R_drew)); exact HO104.out⟩, ⟨by repeat (first | (with_reducible first | exact HB.out | apply below_alloc | apply pw_below_drewN | apply below_drew1) | exact HB.out)⟩⟩
                      · rw [if_neg c10] at H
                        exact absurd H (by simp)
                    · rw [if_neg c9] at H
                      have c9b0 : (x9_2 == (wrap64 (x8_1 + 1))) = false := beq_eq_false_iff_ne.mpr c9
                      have c9b1 : (x9_2 != (wrap64 (x8_1 + 1))) = true := bne_iff_ne.mpr c9
                      by_cases c12 : a1 = 1
                      · rw [if_pos c12] at H
                        have c12b0 : (a1 == 1) = true := beq_iff_eq.mpr c12
                        have c12b1 : (a1 != 1) = false := bne_eq_false_iff_eq.mpr c12
                        clear c12
                        by_cases c13 : x9_2 = (wrap64 (a0 - 1))
                        · rw [if_pos c13] at H
                          have c13b0 : (x9_2 == (wrap64 (a0 - 1))) = true := beq_iff_eq.mpr c13
                          have c13b1 : (x9_2 != (wrap64 (a0 - 1))) = false := bne_eq_false_iff_eq.mpr c13
                          clear c13
                          by_cases c14 : x7_2.length < 8796093022208
                          · rw [if_pos c14] at H
                            have LMc14 := Aside0.mk c14
                            clear c14
                            obtain ⟨y105, hy105⟩ : ∃ y_ : List (S64), y_ = (x7_2 ++ [(⟨x8_1, x9_2⟩ : S64)]) := ⟨_, rfl⟩
                            replace H : (spec_neWhole.l1 k2 a0 a1 a2 y105 x8_1 (wrap64 (x9_2 + 1))) = some r := by first | (rw [hy105]; with_reducible exact H) | (have H2_ := (Option.bind_some _ _).symm.trans H; rw [hy105]; with_reducible exact H2_) | (have H2_ := (Option.bind_some _ _).symm.trans H; with_reducible exact H2_) | with_reducible exact H | (rw [hy105]; exact H) | exact H
                            have Ny105 := Aside0.mk hy105
                            clear hy105
                            have H' := Aside0.mk H
                            clear H
                            go_wp2_with (first | ((with_reducible refine gate_builtin (b := .append) (xs := #[.tmp 71, .tmp 75]) rfl ?_); at_builtin; refine Kd.R_append k64 (w0 := w) w.heap.size rfl (.tmp 71) (.tmp 75) 22 64 (.agg #[(.int .i64 0), (.int .i64 0)]) 16 rfl Try.underlying22 info64 rfl (by decide) (by omega) u7 x7_2 (⟨x8_1, x9_2⟩ : S64) [.int .i64 x8_1, .int .i64 x9_2] (fun _ => True) (fun _ => False) rfl rfl ?aP (fun _ hk => hk.elim) ?aF ?aO ?aB ?aS ?aL ?_; (case aP => exact k64_mkM _ _ _ (⟨x8_1, x9_2⟩ : S64)); (case aB => exact (by repeat (first | (with_reducible first | exact HB.out | apply below_alloc | apply pw_below_drewN | apply below_drew1) | exact HB.out))); (case aF => exact (fun _ _ => trivial)); (case aO => exact (by (with_reducible repeat (first | apply Kd.R_alloc | apply Kd.R_drewN | apply Kd.R_drew)); exact HO_7.out)); (case aS => exact (below_size (by repeat (first | (with_reducible first | exact HB.out | apply below_alloc | apply pw_below_drewN | apply below_drew1) | exact HB.out)))); (case aL => have := LMc14.out; omega); intro v106 w15 ho hb hg hat; rw [← Ny105.out] at ho; have n0_ := Aside0.mk (hb); have n1_ := Aside0.mk (ho); clear HB; clear HO_7; have HB := n0_; have HO107 := n1_; clear n0_ n1_; clear ho hb hg hat))
                            go_roundg k2
                            case measure => have := HK1.out; have := HK2.out; omega
                            case rel => exact ⟨(y105), (wrap64 (x9_2 + 1)), (by first | rfl | (simp; done) | (simp [*]; done)), H', ⟨by have := HK1.out; have := HK2.out; omega⟩, ⟨by (with_reducible repeat (first | apply Kd.R_alloc | apply Kd.R_drewN | apply Kd.R_drew)); exact HO107.out⟩, ⟨by repeat (first | (with_reducible first | exact HB.out | apply below_alloc | apply pw_below_drewN | apply below_drew1) | exact HB.out)⟩⟩
                          · rw [if_neg c14] at H
                            exact absurd H (by simp)
                        · rw [if_neg c13] at H
                          have c13b0 : (x9_2 == (wrap64 (a0 - 1))) = false := beq_eq_false_iff_ne.mpr c13
                          have c13b1 : (x9_2 != (wrap64 (a0 - 1))) = true := bne_iff_ne.mpr c13
                          by_cases c16 : a1 = 2
                          · rw [if_pos c16] at H
                            have c16b0 : (a1 == 2) = true := beq_iff_eq.mpr c16
                            have c16b1 : (a1 != 2) = false := bne_eq_false_iff_eq.mpr c16
                            clear c16
                            by_cases c17 : x7_2.length < 8796093022208
                            · rw [if_pos c17] at H
                              have LMc17 := Aside0.mk c17
                              clear c17
                              obtain ⟨y108, hy108⟩ : ∃ y_ : List (S64), y_ = (x7_2 ++ [(⟨x8_1, x9_2⟩ : S64)]) := ⟨_, rfl⟩
                              replace H : (spec_neWhole.l1 k2 a0 a1 a2 y108 x8_1 (wrap64 (x9_2 + 1))) = some r := by first | (rw [hy108]; with_reducible exact H) | (have H2_ := (Option.bind_some _ _).symm.trans H; rw [hy108]; with_reducible exact H2_) | (have H2_ := (Option.bind_some _ _).symm.trans H; with_reducible exact H2_) | with_reducible exact H | (rw [hy108]; exact H) | exact H
                              have Ny108 := Aside0.mk hy108
                              clear hy108
                              have H' := Aside0.mk H
                              clear H
                              go_wp2_with (first | ((with_reducible refine gate_builtin (b := .append) (xs := #[.tmp 71, .tmp 75]) rfl ?_); at_builtin; refine Kd.R_append k64 (w0 := w) w.heap.size rfl (.tmp 71) (.tmp 75) 22 64 (.agg #[(.int .i64 0), (.int .i64 0)]) 16 rfl Try.underlying22 info64 rfl (by decide) (by omega) u7 x7_2 (⟨x8_1, x9_2⟩ : S64) [.int .i64 x8_1, .int .i64 x9_2] (fun _ => True) (fun _ => False) rfl rfl ?aP (fun _ hk => hk.elim) ?aF ?aO ?aB ?aS ?aL ?_; (case aP => exact k64_mkM _ _ _ (⟨x8_1, x9_2⟩ : S64)); (case aB => exact (by repeat (first | (with_reducible first | exact HB.out | apply below_alloc | apply pw_below_drewN | apply below_drew1) | exact HB.out))); (case aF => exact (fun _ _ => trivial)); (case aO => exact (by (with_reducible repeat (first | apply Kd.R_alloc | apply Kd.R_drewN | apply Kd.R_drew)); exact HO_7.out)); (case aS => exact (below_size (by repeat (first | (with_reducible first | exact HB.out | apply below_alloc | apply pw_below_drewN | apply below_drew1) | exact HB.out)))); (case aL => have := LMc17.out; omega); intro v109 w18 ho hb hg hat; rw [← Ny108.out] at ho; have n0_ := Aside0.mk (hb); have n1_ := Aside0.mk (ho); clear HB; clear HO_7; have HB := n0_; have HO110 := n1_; clear n0_ n1_; clear ho hb hg hat))
                              go_roundg k2
                              case measure => have := HK1.out; have := HK2.out; omega
                              case rel => exact ⟨(y108), (wrap64 (x9_2 + 1)), (by first | rfl | (simp; done) | (simp [*]; done)), H', ⟨by have := HK1.out; have := HK2.out; omega⟩, ⟨by (with_reducible repeat (first | apply Kd.R_alloc | apply Kd.R_drewN | apply Kd.R_drew)); exact HO110.out⟩, ⟨by repeat (first | (with_reducible first | exact HB.out | apply below_alloc | apply pw_below_drewN | apply below_drew1) | exact HB.out)⟩⟩
                            · rw [if_neg c17] at H
                              exact absurd H (by simp)
                          · rw [if_neg c16] at H
                            have c16b0 : (a1 == 2) = false := beq_eq_false_iff_ne.mpr c16
                            have c16b1 : (a1 != 2) = true := bne_iff_ne.mpr c16
                            by_cases c19 : a1 = 3
                            · rw [if_pos c19] at H
                              have c19b0 : (a1 == 3) = true := beq_iff_eq.mpr c19
                              have c19b1 : (a1 != 3) = false := bne_eq_false_iff_eq.mpr c19
                              clear c19
                              by_cases c20 : x7_2.length < 8796093022208
                              · rw [if_pos c20] at H
                                have LMc20 := Aside0.mk c20
                                clear c20
                                obtain ⟨y111, hy111⟩ : ∃ y_ : List (S64), y_ = (x7_2 ++ [(⟨x8_1, x9_2⟩ : S64)]) := ⟨_, rfl⟩
                                replace H : (spec_neWhole.l1 k2 a0 a1 a2 y111 x8_1 (wrap64 (x9_2 + 1))) = some r := by first | (rw [hy111]; with_reducible exact H) | (have H2_ := (Option.bind_some _ _).symm.trans H; rw [hy111]; with_reducible exact H2_) | (have H2_ := (Option.bind_some _ _).symm.trans H; with_reducible exact H2_) | with_reducible exact H | (rw [hy111]; exact H) | exact H
                                have Ny111 := Aside0.mk hy111
                                clear hy111
                                have H' := Aside0.mk H
                                clear H
                                go_wp2_with (first | ((with_reducible refine gate_builtin (b := .append) (xs := #[.tmp 71, .tmp 75]) rfl ?_); at_builtin; refine Kd.R_append k64 (w0 := w) w.heap.size rfl (.tmp 71) (.tmp 75) 22 64 (.agg #[(.int .i64 0), (.int .i64 0)]) 16 rfl Try.underlying22 info64 rfl (by decide) (by omega) u7 x7_2 (⟨x8_1, x9_2⟩ : S64) [.int .i64 x8_1, .int .i64 x9_2] (fun _ => True) (fun _ => False) rfl rfl ?aP (fun _ hk => hk.elim) ?aF ?aO ?aB ?aS ?aL ?_; (case aP => exact k64_mkM _ _ _ (⟨x8_1, x9_2⟩ : S64)); (case aB => exact (by repeat (first | (with_reducible first | exact HB.out | apply below_alloc | apply pw_below_drewN | apply below_drew1) | exact HB.out))); (case aF => exact (fun _ _ => trivial)); (case aO => exact (by (with_reducible repeat (first | apply Kd.R_alloc | apply Kd.R_drewN | apply Kd.R_drew)); exact HO_7.out)); (case aS => exact (below_size (by repeat (first | (with_reducible first | exact HB.out | apply below_alloc | apply pw_below_drewN | apply below_drew1) | exact HB.out)))); (case aL => have := LMc20.out; omega); intro v112 w21 ho hb hg hat; rw [← Ny111.out] at ho; have n0_ := Aside0.mk (hb); have n1_ := Aside0.mk (ho); clear HB; clear HO_7; have HB := n0_; have HO113 := n1_; clear n0_ n1_; clear ho hb hg hat))
                                go_roundg k2
                                case measure => have := HK1.out; have := HK2.out; omega
                                case rel => exact ⟨(y111), (wrap64 (x9_2 + 1)), (by first | rfl | (simp; done) | (simp [*]; done)), H', ⟨by have := HK1.out; have := HK2.out; omega⟩, ⟨by (with_reducible repeat (first | apply Kd.R_alloc | apply Kd.R_drewN | apply Kd.R_drew)); exact HO113.out⟩, ⟨by repeat (first | (with_reducible first | exact HB.out | apply below_alloc | apply pw_below_drewN | apply below_drew1) | exact HB.out)⟩⟩
                              · rw [if_neg c20] at H
                                exact absurd H (by simp)
                            · rw [if_neg c19] at H
                              have c19b0 : (a1 == 3) = false := beq_eq_false_iff_ne.mpr c19
                              have c19b1 : (a1 != 3) = true := bne_iff_ne.mpr c19
                              have H' := Aside0.mk H
                              clear H
                              go_wp2
                              go_roundg k2
                              case measure => have := HK1.out; have := HK2.out; omega
                              case rel => exact ⟨(x7_2), (wrap64 (x9_2 + 1)), (by first | rfl | (simp; done) | (simp [*]; done)), H', ⟨by have := HK1.out; have := HK2.out; omega⟩, ⟨by (with_reducible repeat (first | apply Kd.R_alloc | apply Kd.R_drewN | apply Kd.R_drew)); exact HO_7.out⟩, ⟨by repeat (first | (with_reducible first | exact HB.out | apply below_alloc | apply pw_below_drewN | apply below_drew1) | exact HB.out)⟩⟩
                      · rw [if_neg c12] at H
                        have c12b0 : (a1 == 1) = false := beq_eq_false_iff_ne.mpr c12
                        have c12b1 : (a1 != 1) = true := bne_iff_ne.mpr c12
                        by_cases c22 : a1 = 2
                        · rw [if_pos c22] at H
                          have c22b0 : (a1 == 2) = true := beq_iff_eq.mpr c22
                          have c22b1 : (a1 != 2) = false := bne_eq_false_iff_eq.mpr c22
                          clear c22
                          by_cases c23 : x7_2.length < 8796093022208
                          · rw [if_pos c23] at H
                            have LMc23 := Aside0.mk c23
                            clear c23
                            obtain ⟨y114, hy114⟩ : ∃ y_ : List (S64), y_ = (x7_2 ++ [(⟨x8_1, x9_2⟩ : S64)]) := ⟨_, rfl⟩
                            replace H : (spec_neWhole.l1 k2 a0 a1 a2 y114 x8_1 (wrap64 (x9_2 + 1))) = some r := by first | (rw [hy114]; with_reducible exact H) | (have H2_ := (Option.bind_some _ _).symm.trans H; rw [hy114]; with_reducible exact H2_) | (have H2_ := (Option.bind_some _ _).symm.trans H; with_reducible exact H2_) | with_reducible exact H | (rw [hy114]; exact H) | exact H
                            have Ny114 := Aside0.mk hy114
                            clear hy114
                            have H' := Aside0.mk H
                            clear H
                            go_wp2_with (first | ((with_reducible refine gate_builtin (b := .append) (xs := #[.tmp 71, .tmp 75]) rfl ?_); at_builtin; refine Kd.R_append k64 (w0 := w) w.heap.size rfl (.tmp 71) (.tmp 75) 22 64 (.agg #[(.int .i64 0), (.int .i64 0)]) 16 rfl Try.underlying22 info64 rfl (by decide) (by omega) u7 x7_2 (⟨x8_1, x9_2⟩ : S64) [.int .i64 x8_1, .int .i64 x9_2] (fun _ => True) (fun _ => False) rfl rfl ?aP (fun _ hk => hk.elim) ?aF ?aO ?aB ?aS ?aL ?_; (case aP => exact k64_mkM _ _ _ (⟨x8_1, x9_2⟩ : S64)); (case aB => exact (by repeat (first | (with_reducible first | exact HB.out | apply below_alloc | apply pw_below_drewN | apply below_drew1) | exact HB.out))); (case aF => exact (fun _ _ => trivial)); (case aO => exact (by (with_reducible repeat (first | apply Kd.R_alloc | apply Kd.R_drewN | apply Kd.R_drew)); exact HO_7.out)); (case aS => exact (below_size (by repeat (first | (with_reducible first | exact HB.out | apply below_alloc | apply pw_below_drewN | apply below_drew1) | exact HB.out)))); (case aL => have := LMc23.out; omega); intro v115 w24 ho hb hg hat; rw [← Ny114.out] at ho; have n0_ := Aside0.mk (hb); have n1_ := Aside0.mk (ho); clear HB; clear HO_7; have HB := n0_; have HO116 := n1_; clear n0_ n1_; clear ho hb hg hat))
                            go_roundg k2
                            case measure => have := HK1.out; have := HK2.out; omega
                            case rel => exact ⟨(y114), (wrap64 (x9_2 + 1)), (by first | rfl | (simp; done) | (simp [*]; done)), H', ⟨by have := HK1.out; have := HK2.out; omega⟩, ⟨by (with_reducible repeat (first | apply Kd.R_alloc | apply Kd.R_drewN | apply Kd.R_drew)); exact HO116.out⟩, ⟨by repeat (first | (with_reducible first | exact HB.out | apply below_alloc | apply pw_below_drewN | apply below_drew1) | exact HB.out)⟩⟩
                          · rw [if_neg c23] at H
                            exact absurd H (by simp)
                        · rw [if_neg c22] at H
                          have c22b0 : (a1 == 2) = false := beq_eq_false_iff_ne.mpr c22
                          have c22b1 : (a1 != 2) = true := bne_iff_ne.mpr c22
                          by_cases c25 : a1 = 3
                          · rw [if_pos c25] at H
                            have c25b0 : (a1 == 3) = true := beq_iff_eq.mpr c25
                            have c25b1 : (a1 != 3) = false := bne_eq_false_iff_eq.mpr c25
                            clear c25
                            by_cases c26 : x7_2.length < 8796093022208
                            · rw [if_pos c26] at H
                              have LMc26 := Aside0.mk c26
                              clear c26
                              obtain ⟨y117, hy117⟩ : ∃ y_ : List (S64), y_ = (x7_2 ++ [(⟨x8_1, x9_2⟩ : S64)]) := ⟨_, rfl⟩
                              replace H : (spec_neWhole.l1 k2 a0 a1 a2 y117 x8_1 (wrap64 (x9_2 + 1))) = some r := by first | (rw [hy117]; with_reducible exact H) | (have H2_ := (Option.bind_some _ _).symm.trans H; rw [hy117]; with_reducible exact H2_) | (have H2_ := (Option.bind_some _ _).symm.trans H; with_reducible exact H2_) | with_reducible exact H | (rw [hy117]; exact H) | exact H
                              have Ny117 := Aside0.mk hy117
                              clear hy117
                              have H' := Aside0.mk H
                              clear H
                              go_wp2_with (first | ((with_reducible refine gate_builtin (b := .append) (xs := #[.tmp 71, .tmp 75]) rfl ?_); at_builtin; refine Kd.R_append k64 (w0 := w) w.heap.size rfl (.tmp 71) (.tmp 75) 22 64 (.agg #[(.int .i64 0), (.int .i64 0)]) 16 rfl Try.underlying22 info64 rfl (by decide) (by omega) u7 x7_2 (⟨x8_1, x9_2⟩ : S64) [.int .i64 x8_1, .int .i64 x9_2] (fun _ => True) (fun _ => False) rfl rfl ?aP (fun _ hk => hk.elim) ?aF ?aO ?aB ?aS ?aL ?_; (case aP => exact k64_mkM _ _ _ (⟨x8_1, x9_2⟩ : S64)); (case aB => exact (by repeat (first | (with_reducible first | exact HB.out | apply below_alloc | apply pw_below_drewN | apply below_drew1) | exact HB.out))); (case aF => exact (fun _ _ => trivial)); (case aO => exact (by (with_reducible repeat (first | apply Kd.R_alloc | apply Kd.R_drewN | apply Kd.R_drew)); exact HO_7.out)); (case aS => exact (below_size (by repeat (first | (with_reducible first | exact HB.out | apply below_alloc | apply pw_below_drewN | apply below_drew1) | exact HB.out)))); (case aL => have := LMc26.out; omega); intro v118 w27 ho hb hg hat; rw [← Ny117.out] at ho; have n0_ := Aside0.mk (hb); have n1_ := Aside0.mk (ho); clear HB; clear HO_7; have HB := n0_; have HO119 := n1_; clear n0_ n1_; clear ho hb hg hat))
                              go_roundg k2
                              case measure => have := HK1.out; have := HK2.out; omega
                              case rel => exact ⟨(y117), (wrap64 (x9_2 + 1)), (by first | rfl | (simp; done) | (simp [*]; done)), H', ⟨by have := HK1.out; have := HK2.out; omega⟩, ⟨by (with_reducible repeat (first | apply Kd.R_alloc | apply Kd.R_drewN | apply Kd.R_drew)); exact HO119.out⟩, ⟨by repeat (first | (with_reducible first | exact HB.out | apply below_alloc | apply pw_below_drewN | apply below_drew1) | exact HB.out)⟩⟩
                            · rw [if_neg c26] at H
                              exact absurd H (by simp)
                          · rw [if_neg c25] at H
                            have c25b0 : (a1 == 3) = false := beq_eq_false_iff_ne.mpr c25
                            have c25b1 : (a1 != 3) = true := bne_iff_ne.mpr c25
                            have H' := Aside0.mk H
                            clear H
                            go_wp2
                            go_roundg k2
                            case measure => have := HK1.out; have := HK2.out; omega
                            case rel => exact ⟨(x7_2), (wrap64 (x9_2 + 1)), (by first | rfl | (simp; done) | (simp [*]; done)), H', ⟨by have := HK1.out; have := HK2.out; omega⟩, ⟨by (with_reducible repeat (first | apply Kd.R_alloc | apply Kd.R_drewN | apply Kd.R_drew)); exact HO_7.out⟩, ⟨by repeat (first | (with_reducible first | exact HB.out | apply below_alloc | apply pw_below_drewN | apply below_drew1) | exact HB.out)⟩⟩
                  · rw [if_neg c8] at H
                    have c8b0 : (a1 == 0) = false := beq_eq_false_iff_ne.mpr c8
                    have c8b1 : (a1 != 0) = true := bne_iff_ne.mpr c8
                    by_cases c28 : a1 = 1
                    · rw [if_pos c28] at H
                      have c28b0 : (a1 == 1) = true := beq_iff_eq.mpr c28
                      have c28b1 : (a1 != 1) = false := bne_eq_false_iff_eq.mpr c28
                      clear c28
                      by_cases c29 : x9_2 = (wrap64 (x8_1 + 1))
                      · rw [if_pos c29] at H
                        have c29b0 : (x9_2 == (wrap64 (x8_1 + 1))) = true := beq_iff_eq.mpr c29
                        have c29b1 : (x9_2 != (wrap64 (x8_1 + 1))) = false := bne_eq_false_iff_eq.mpr c29
                        clear c29
                        by_cases c30 : x7_2.length < 8796093022208
                        · rw [if_pos c30] at H
                          have LMc30 := Aside0.mk c30
                          clear c30
                          obtain ⟨y120, hy120⟩ : ∃ y_ : List (S64), y_ = (x7_2 ++ [(⟨x8_1, x9_2⟩ : S64)]) := ⟨_, rfl⟩
                          replace H : (spec_neWhole.l1 k2 a0 a1 a2 y120 x8_1 (wrap64 (x9_2 + 1))) = some r := by first | (rw [hy120]; with_reducible exact H) | (have H2_ := (Option.bind_some _ _).symm.trans H; rw [hy120]; with_reducible exact H2_) | (have H2_ := (Option.bind_some _ _).symm.trans H; with_reducible exact H2_) | with_reducible exact H | (rw [hy120]; exact H) | exact H
                          have Ny120 := Aside0.mk hy120
                          clear hy120
                          have H' := Aside0.mk H
                          clear H
                          go_wp2_with (first | ((with_reducible refine gate_builtin (b := .append) (xs := #[.tmp 71, .tmp 75]) rfl ?_); at_builtin; refine Kd.R_append k64 (w0 := w) w.heap.size rfl (.tmp 71) (.tmp 75) 22 64 (.agg #[(.int .i64 0), (.int .i64 0)]) 16 rfl Try.underlying22 info64 rfl (by decide) (by omega) u7 x7_2 (⟨x8_1, x9_2⟩ : S64) [.int .i64 x8_1, .int .i64 x9_2] (fun _ => True) (fun _ => False) rfl rfl ?aP (fun _ hk => hk.elim) ?aF ?aO ?aB ?aS ?aL ?_; (case aP => exact k64_mkM _ _ _ (⟨x8_1, x9_2⟩ : S64)); (case aB => exact (by repeat (first | (with_reducible first | exact HB.out | apply below_alloc | apply pw_below_drewN | apply below_drew1) | exact HB.out))); (case aF => exact (fun _ _ => trivial)); (case aO => exact (by (with_reducible repeat (first | apply Kd.R_alloc | apply Kd.R_drewN | apply Kd.R_drew)); exact HO_7.out)); (case aS => exact (below_size (by repeat (first | (with_reducible first | exact HB.out | apply below_alloc | apply pw_below_drewN | apply below_drew1) | exact HB.out)))); (case aL => have := LMc30.out; omega); intro v121 w31 ho hb hg hat; rw [← Ny120.out] at ho; have n0_ := Aside0.mk (hb); have n1_ := Aside0.mk (ho); clear HB; clear HO_7; have HB := n0_; have HO122 := n1_; clear n0_ n1_; clear ho hb hg hat))
                          go_roundg k2
                          case measure => have := HK1.out; have := HK2.out; omega
                          case rel => exact ⟨(y120), (wrap64 (x9_2 + 1)), (by first | rfl | (simp; done) | (simp [*]; done)), H', ⟨by have := HK1.out; have := HK2.out; omega⟩, ⟨by (with_reducible repeat (first | apply Kd.R_alloc | apply Kd.R_drewN | apply Kd.R_drew)); exact HO122.out⟩, ⟨by repeat (first | (with_reducible first | exact HB.out | apply below_alloc | apply pw_below_drewN | apply below_drew1) | exact HB.out)⟩⟩
                        · rw [if_neg c30] at H
                          exact absurd H (by simp)
                      · rw [if_neg c29] at H
                        have c29b0 : (x9_2 == (wrap64 (x8_1 + 1))) = false := beq_eq_false_iff_ne.mpr c29
                        have c29b1 : (x9_2 != (wrap64 (x8_1 + 1))) = true := bne_iff_ne.mpr c29
                        by_cases c32 : x9_2 = (wrap64 (a0 - 1))
                        · rw [if_pos c32] at H
                          have c32b0 : (x9_2 == (wrap64 (a0 - 1))) = true := beq_iff_eq.mpr c32
                          have c32b1 : (x9_2 != (wrap64 (a0 - 1))) = false := bne_eq_false_iff_eq.mpr c32
                          clear c32
                          by_cases c33 : x7_2.length < 8796093022208
                          · rw [if_pos c33] at H
                            have LMc33 := Aside0.mk c33
                            clear c33
                            obtain ⟨y123, hy123⟩ : ∃ y_ : List (S64), y_ = (x7_2 ++ [(⟨x8_1, x9_2⟩ : S64)]) := ⟨_, rfl⟩
                            replace H : (spec_neWhole.l1 k2 a0 a1 a2 y123 x8_1 (wrap64 (x9_2 + 1))) = some r := by first | (rw [hy123]; with_reducible exact H) | (have H2_ := (Option.bind_some _ _).symm.trans H; rw [hy123]; with_reducible exact H2_) | (have H2_ := (Option.bind_some _ _).symm.trans H; with_reducible exact H2_) | with_reducible exact H | (rw [hy123]; exact H) | exact H
                            have Ny123 := Aside0.mk hy123
                            clear hy123
                            have H' := Aside0.mk H
                            clear H
                            go_wp2_with (first | ((with_reducible refine gate_builtin (b := .append) (xs := #[.tmp 71, .tmp 75]) rfl ?_); at_builtin; refine Kd.R_append k64 (w0 := w) w.heap.size rfl (.tmp 71) (.tmp 75) 22 64 (.agg #[(.int .i64 0), (.int .i64 0)]) 16 rfl Try.underlying22 info64 rfl (by decide) (by omega) u7 x7_2 (⟨x8_1, x9_2⟩ : S64) [.int .i64 x8_1, .int .i64 x9_2] (fun _ => True) (fun _ => False) rfl rfl ?aP (fun _ hk => hk.elim) ?aF ?aO ?aB ?aS ?aL ?_; (case aP => exact k64_mkM _ _ _ (⟨x8_1, x9_2⟩ : S64)); (case aB => exact (by repeat (first | (with_reducible first | exact HB.out | apply below_alloc | apply pw_below_drewN | apply below_drew1) | exact HB.out))); (case aF => exact (fun _ _ => trivial)); (case aO => exact (by (with_reducible repeat (first | apply Kd.R_alloc | apply Kd.R_drewN | apply Kd.R_drew)); exact HO_7.out)); (case aS => exact (below_size (by repeat (first | (with_reducible first | exact HB.out | apply below_alloc | apply pw_below_drewN | apply below_drew1) | exact HB.out)))); (case aL => have := LMc33.out; omega); intro v124 w34 ho hb hg hat; rw [← Ny123.out] at ho; have n0_ := Aside0.mk (hb); have n1_ := Aside0.mk (ho); clear HB; clear HO_7; have HB := n0_; have HO125 := n1_; clear n0_ n1_; clear ho hb hg hat))
                            go_roundg k2
                            case measure => have := HK1.out; have := HK2.out; omega
                            case rel => exact ⟨(y123), (wrap64 (x9_2 + 1)), (by first | rfl | (simp; done) | (simp [*]; done)), H', ⟨by have := HK1.out; have := HK2.out; omega⟩, ⟨by (with_reducible repeat (first | apply Kd.R_alloc | apply Kd.R_drewN | apply Kd.R_drew)); exact HO125.out⟩, ⟨by repeat (first | (with_reducible first | exact HB.out | apply below_alloc | apply pw_below_drewN | apply below_drew1) | exact HB.out)⟩⟩
                          · rw [if_neg c33] at H
                            exact absurd H (by simp)
                        · rw [if_neg c32] at H
                          have c32b0 : (x9_2 == (wrap64 (a0 - 1))) = false := beq_eq_false_iff_ne.mpr c32
                          have c32b1 : (x9_2 != (wrap64 (a0 - 1))) = true := bne_iff_ne.mpr c32
                          by_cases c35 : a1 = 2
                          · rw [if_pos c35] at H
                            have c35b0 : (a1 == 2) = true := beq_iff_eq.mpr c35
                            have c35b1 : (a1 != 2) = false := bne_eq_false_iff_eq.mpr c35
                            clear c35
                            by_cases c36 : x7_2.length < 8796093022208
                            · rw [if_pos c36] at H
                              have LMc36 := Aside0.mk c36
                              clear c36
                              obtain ⟨y126, hy126⟩ : ∃ y_ : List (S64), y_ = (x7_2 ++ [(⟨x8_1, x9_2⟩ : S64)]) := ⟨_, rfl⟩
                              replace H : (spec_neWhole.l1 k2 a0 a1 a2 y126 x8_1 (wrap64 (x9_2 + 1))) = some r := by first | (rw [hy126]; with_reducible exact H) | (have H2_ := (Option.bind_some _ _).symm.trans H; rw [hy126]; with_reducible exact H2_) | (have H2_ := (Option.bind_some _ _).symm.trans H; with_reducible exact H2_) | with_reducible exact H | (rw [hy126]; exact H) | exact H
                              have Ny126 := Aside0.mk hy126
                              clear hy126
                              have H' := Aside0.mk H
                              clear H
                              go_wp2_with (first | ((with_reducible refine gate_builtin (b := .append) (xs := #[.tmp 71, .tmp 75]) rfl ?_); at_builtin; refine Kd.R_append k64 (w0 := w) w.heap.size rfl (.tmp 71) (.tmp 75) 22 64 (.agg #[(.int .i64 0), (.int .i64 0)]) 16 rfl Try.underlying22 info64 rfl (by decide) (by omega) u7 x7_2 (⟨x8_1, x9_2⟩ : S64) [.int .i64 x8_1, .int .i64 x9_2] (fun _ => True) (fun _ => False) rfl rfl ?aP (fun _ hk => hk.elim) ?aF ?aO ?aB ?aS ?aL ?_; (case aP => exact k64_mkM _ _ _ (⟨x8_1, x9_2⟩ : S64)); (case aB => exact (by repeat (first | (with_reducible first | exact HB.out | apply below_alloc | apply pw_below_drewN | apply below_drew1) | exact HB.out))); (case aF => exact (fun _ _ => trivial)); (case aO => exact (by (with_reducible repeat (first | apply Kd.R_alloc | apply Kd.R_drewN | apply Kd.R_drew)); exact HO_7.out)); (case aS => exact (below_size (by repeat (first | (with_reducible first | exact HB.out | apply below_alloc | apply pw_below_drewN | apply below_drew1) | exact HB.out)))); (case aL => have := LMc36.out; omega); intro v127 w37 ho hb hg hat; rw [← Ny126.out] at ho; have n0_ := Aside0.mk (hb); have n1_ := Aside0.mk (ho); clear HB; clear HO_7; have HB := n0_; have HO128 := n1_; clear n0_ n1_; clear ho hb hg hat))
                              go_roundg k2
                              case measure => have := HK1.out; have := HK2.out; omega
                              case rel => exact ⟨(y126), (wrap64 (x9_2 + 1)), (by first | rfl | (simp; done) | (simp [*]; done)), H', ⟨by have := HK1.out; have := HK2.out; omega⟩, ⟨by (with_reducible repeat (first | apply Kd.R_alloc | apply Kd.R_drewN | apply Kd.R_drew)); exact HO128.out⟩, ⟨by repeat (first | (with_reducible first | exact HB.out | apply below_alloc | apply pw_below_drewN | apply below_drew1) | exact HB.out)⟩⟩
                            · rw [if_neg c36] at H
                              exact absurd H (by simp)
                          · rw [if_neg c35] at H
                            have c35b0 : (a1 == 2) = false := beq_eq_false_iff_ne.mpr c35
                            have c35b1 : (a1 != 2) = true := bne_iff_ne.mpr c35
                            by_cases c38 : a1 = 3
                            · rw [if_pos c38] at H
                              have c38b0 : (a1 == 3) = true := beq_iff_eq.mpr c38
                              have c38b1 : (a1 != 3) = false := bne_eq_false_iff_eq.mpr c38
                              clear c38
                              by_cases c39 : x7_2.length < 8796093022208
                              · rw [if_pos c39] at H
                                have LMc39 := Aside0.mk c39
                                clear c39
                                obtain ⟨y129, hy129⟩ : ∃ y_ : List (S64), y_ = (x7_2 ++ [(⟨x8_1, x9_2⟩ : S64)]) := ⟨_, rfl⟩
                                replace H : (spec_neWhole.l1 k2 a0 a1 a2 y129 x8_1 (wrap64 (x9_2 + 1))) = some r := by first | (rw [hy129]; with_reducible exact H) | (have H2_ := (Option.bind_some _ _).symm.trans H; rw [hy129]; with_reducible exact H2_) | (have H2_ := (Option.bind_some _ _).symm.trans H; with_reducible exact H2_) | with_reducible exact H | (rw [hy129]; exact H) | exact H
                                have Ny129 := Aside0.mk hy129
                                clear hy129
                                have H' := Aside0.mk H
                                clear H
                                go_wp2_with (first | ((with_reducible refine gate_builtin (b := .append) (xs := #[.tmp 71, .tmp 75]) rfl ?_); at_builtin; refine Kd.R_append k64 (w0 := w) w.heap.size rfl (.tmp 71) (.tmp 75) 22 64 (.agg #[(.int .i64 0), (.int .i64 0)]) 16 rfl Try.underlying22 info64 rfl (by decide) (by omega) u7 x7_2 (⟨x8_1, x9_2⟩ : S64) [.int .i64 x8_1, .int .i64 x9_2] (fun _ => True) (fun _ => False) rfl rfl ?aP (fun _ hk => hk.elim) ?aF ?aO ?aB ?aS ?aL ?_; (case aP => exact k64_mkM _ _ _ (⟨x8_1, x9_2⟩ : S64)); (case aB => exact (by repeat (first | (with_reducible first | exact HB.out | apply below_alloc | apply pw_below_drewN | apply below_drew1) | exact HB.out))); (case aF => exact (fun _ _ => trivial)); (case aO => exact (by (with_reducible repeat (first | apply Kd.R_alloc | apply Kd.R_drewN | apply Kd.R_drew)); exact HO_7.out)); (case aS => exact (below_size (by repeat (first | (with_reducible first | exact HB.out | apply below_alloc | apply pw_below_drewN | apply below_drew1) | exact HB.out)))); (case aL => have := LMc39.out; omega); intro v130 w40 ho hb hg hat; rw [← Ny129.out] at ho; have n0_ := Aside0.mk (hb); have n1_ := Aside0.mk (ho); clear HB; clear HO_7; have HB := n0_; have HO131 := n1_; clear n0_ n1_; clear ho hb hg hat))
                                go_roundg k2
                                case measure => have := HK1.out; have := HK2.out; omega
                                case rel => exact ⟨(y129), (wrap64 (x9_2 + 1)), (by first | rfl | (simp; done) | (simp [*]; done)), H', ⟨by have := HK1.out; have := HK2.out; omega⟩, ⟨by (with_reducible repeat (first | apply Kd.R_alloc | apply Kd.R_drewN | apply Kd.R_drew)); exact HO131.out⟩, ⟨by repeat (first | (with_reducible first | exact HB.out | apply below_alloc | apply pw_below_drewN | apply below_drew1) | exact HB.out)⟩⟩
                              · rw [if_neg c39] at H
                                exact absurd H (by simp)
                            · rw [if_neg c38] at H
                              have c38b0 : (a1 == 3) = false := beq_eq_false_iff_ne.mpr c38
                              have c38b1 : (a1 != 3) = true := bne_iff_ne.mpr c38
                              have H' := Aside0.mk H
                              clear H
                              go_wp2
                              go_roundg k2
                              case measure => have := HK1.out; have := HK2.out; omega
                              case rel => exact ⟨(x7_2), (wrap64 (x9_2 + 1)), (by first | rfl | (simp; done) | (simp [*]; done)), H', ⟨by have := HK1.out; have := HK2.out; omega⟩, ⟨by (with_reducible repeat (first | apply Kd.R_alloc | apply Kd.R_drewN | apply Kd.R_drew)); exact HO_7.out⟩, ⟨by repeat (first | (with_reducible first | exact HB.out | apply below_alloc | apply pw_below_drewN | apply below_drew1) | exact HB.out)⟩⟩
                    · rw [if_neg c28] at H
                      have c28b0 : (a1 == 1) = false := beq_eq_false_iff_ne.mpr c28
                      have c28b1 : (a1 != 1) = true := bne_iff_ne.mpr c28
                      by_cases c41 : a1 = 2
                      · rw [if_pos c41] at H
                        have c41b0 : (a1 == 2) = true := beq_iff_eq.mpr c41
                        have c41b1 : (a1 != 2) = false := bne_eq_false_iff_eq.mpr c41
                        clear c41
                        by_cases c42 : x7_2.length < 8796093022208
                        · rw [if_pos c42] at H
                          have LMc42 := Aside0.mk c42
                          clear c42
                          obtain ⟨y132, hy132⟩ : ∃ y_ : List (S64), y_ = (x7_2 ++ [(⟨x8_1, x9_2⟩ : S64)]) := ⟨_, rfl⟩
                          replace H : (spec_neWhole.l1 k2 a0 a1 a2 y132 x8_1 (wrap64 (x9_2 + 1))) = some r := by first | (rw [hy132]; with_reducible exact H) | (have H2_ := (Option.bind_some _ _).symm.trans H; rw [hy132]; with_reducible exact H2_) | (have H2_ := (Option.bind_some _ _).symm.trans H; with_reducible exact H2_) | with_reducible exact H | (rw [hy132]; exact H) | exact H
                          have Ny132 := Aside0.mk hy132
                          clear hy132
                          have H' := Aside0.mk H
                          clear H
                          go_wp2_with (first | ((with_reducible refine gate_builtin (b := .append) (xs := #[.tmp 71, .tmp 75]) rfl ?_); at_builtin; refine Kd.R_append k64 (w0 := w) w.heap.size rfl (.tmp 71) (.tmp 75) 22 64 (.agg #[(.int .i64 0), (.int .i64 0)]) 16 rfl Try.underlying22 info64 rfl (by decide) (by omega) u7 x7_2 (⟨x8_1, x9_2⟩ : S64) [.int .i64 x8_1, .int .i64 x9_2] (fun _ => True) (fun _ => False) rfl rfl ?aP (fun _ hk => hk.elim) ?aF ?aO ?aB ?aS ?aL ?_; (case aP => exact k64_mkM _ _ _ (⟨x8_1, x9_2⟩ : S64)); (case aB => exact (by repeat (first | (with_reducible first | exact HB.out | apply below_alloc | apply pw_below_drewN | apply below_drew1) | exact HB.out))); (case aF => exact (fun _ _ => trivial)); (case aO => exact (by (with_reducible repeat (first | apply Kd.R_alloc | apply Kd.R_drewN | apply Kd.R_drew)); exact HO_7.out)); (case aS => exact (below_size (by repeat (first | (with_reducible first | exact HB.out | apply below_alloc | apply pw_below_drewN | apply below_drew1) | exact HB.out)))); (case aL => have := LMc42.out; omega); intro v133 w43 ho hb hg hat; rw [← Ny132.out] at ho; have n0_ := Aside0.mk (hb); have n1_ := Aside0.mk (ho); clear HB; clear HO_7; have HB := n0_; have HO134 := n1_; clear n0_ n1_; clear ho hb hg hat))
                          go_roundg k2
                          case measure => have := HK1.out; have := HK2.out; omega
                          case rel => exact ⟨(y132), (wrap64 (x9_2 + 1)), (by first | rfl | (simp; done) | (simp [*]; done)), H', ⟨by have := HK1.out; have := HK2.out; omega⟩, ⟨by (with_reducible repeat (first | apply Kd.R_alloc | apply Kd.R_drewN | apply Kd.R_drew)); exact HO134.out⟩, ⟨by repeat (first | (with_reducible first | exact HB.out | apply below_alloc | apply pw_below_drewN | apply below_drew1) | exact HB.out)⟩⟩
                        · rw [if_neg c42] at H
                          exact absurd H (by simp)
                      · rw [if_neg c41] at H
                        have c41b0 : (a1 == 2) = false := beq_eq_false_iff_ne.mpr c41
                        have c41b1 : (a1 != 2) = true := bne_iff_ne.mpr c41
                        by_cases c44 : a1 = 3
                        · rw [if_pos c44] at H
                          have c44b0 : (a1 == 3) = true := beq_iff_eq.mpr c44
                          have c44b1 : (a1 != 3) = false := bne_eq_false_iff_eq.mpr c44
                          clear c44
                          by_cases c45 : x7_2.length < 8796093022208
                          · rw [if_pos c45] at H
                            have LMc45 := Aside0.mk c45
                            clear c45
                            obtain ⟨y135, hy135⟩ : ∃ y_ : List (S64), y_ = (x7_2 ++ [(⟨x8_1, x9_2⟩ : S64)]) := ⟨_, rfl⟩
                            replace H : (spec_neWhole.l1 k2 a0 a1 a2 y135 x8_1 (wrap64 (x9_2 + 1))) = some r := by first | (rw [hy135]; with_reducible exact H) | (have H2_ := (Option.bind_some _ _).symm.trans H; rw [hy135]; with_reducible exact H2_) | (have H2_ := (Option.bind_some _ _).symm.trans H; with_reducible exact H2_) | with_reducible exact H | (rw [hy135]; exact H) | exact H
                            have Ny135 := Aside0.mk hy135
                            clear hy135
                            have H' := Aside0.mk H
                            clear H
                            go_wp2_with (first | ((with_reducible refine gate_builtin (b := .append) (xs := #[.tmp 71, .tmp 75]) rfl ?_); at_builtin; refine Kd.R_append k64 (w0 := w) w.heap.size rfl (.tmp 71) (.tmp 75) 22 64 (.agg #[(.int .i64 0), (.int .i64 0)]) 16 rfl Try.underlying22 info64 rfl (by decide) (by omega) u7 x7_2 (⟨x8_1, x9_2⟩ : S64) [.int .i64 x8_1, .int .i64 x9_2] (fun _ => True) (fun _ => False) rfl rfl ?aP (fun _ hk => hk.elim) ?aF ?aO ?aB ?aS ?aL ?_; (case aP => exact k64_mkM _ _ _ (⟨x8_1, x9_2⟩ : S64)); (case aB => exact (by repeat (first | (with_reducible first | exact HB.out | apply below_alloc | apply pw_below_drewN | apply below_drew1) | exact HB.out))); (case aF => exact (fun _ _ => trivial)); (case aO => exact (by (with_reducible repeat (first | apply Kd.R_alloc | apply Kd.R_drewN | apply Kd.R_drew)); exact HO_7.out)); (case aS => exact (below_size (by repeat (first | (with_reducible first | exact HB.out | apply below_alloc | apply pw_below_drewN | apply below_drew1) | exact HB.out)))); (case aL => have := LMc45.out; omega); intro v136 w46 ho hb hg hat; rw [← Ny135.out] at ho; have n0_ := Aside0.mk (hb); have n1_ := Aside0.mk (ho); clear HB; clear HO_7; have HB := n0_; have HO137 := n1_; clear n0_ n1_; clear ho hb hg hat))
                            go_roundg k2
                            case measure => have := HK1.out; have := HK2.out; omega
                            case rel => exact ⟨(y135), (wrap64 (x9_2 + 1)), (by first | rfl | (simp; done) | (simp [*]; done)), H', ⟨by have := HK1.out; have := HK2.out; omega⟩, ⟨by (with_reducible repeat (first | apply Kd.R_alloc | apply Kd.R_drewN | apply Kd.R_drew)); exact HO137.out⟩, ⟨by repeat (first | (with_reducible first | exact HB.out | apply below_alloc | apply pw_below_drewN | apply below_drew1) | exact HB.out)⟩⟩
                          · rw [if_neg c45] at H
                            exact absurd H (by simp)
                        · rw [if_neg c44] at H
                          have c44b0 : (a1 == 3) = false := beq_eq_false_iff_ne.mpr c44
                          have c44b1 : (a1 != 3) = true := bne_iff_ne.mpr c44
                          have H' := Aside0.mk H
                          clear H
                          go_wp2
                          go_roundg k2
                          case measure => have := HK1.out; have := HK2.out; omega
                          case rel => exact ⟨(x7_2), (wrap64 (x9_2 + 1)), (by first | rfl | (simp; done) | (simp [*]; done)), H', ⟨by have := HK1.out; have := HK2.out; omega⟩, ⟨by (with_reducible repeat (first | apply Kd.R_alloc | apply Kd.R_drewN | apply Kd.R_drew)); exact HO_7.out⟩, ⟨by repeat (first | (with_reducible first | exact HB.out | apply below_alloc | apply pw_below_drewN | apply below_drew1) | exact HB.out)⟩⟩
                · rw [if_neg c7] at H
                  have c7b0 : (x8_1 == a2) = false := beq_eq_false_iff_ne.mpr c7
                  have c7b1 : (x8_1 != a2) = true := bne_iff_ne.mpr c7
                  by_cases c47 : a1 = 0
                  · rw [if_pos c47] at H
                    have c47b0 : (a1 == 0) = true := beq_iff_eq.mpr c47
                    have c47b1 : (a1 != 0) = false := bne_eq_false_iff_eq.mpr c47
                    clear c47
                    by_cases c48 : x9_2 = (wrap64 (x8_1 + 1))
                    · rw [if_pos c48] at H
                      have c48b0 : (x9_2 == (wrap64 (x8_1 + 1))) = true := beq_iff_eq.mpr c48
                      have c48b1 : (x9_2 != (wrap64 (x8_1 + 1))) = false := bne_eq_false_iff_eq.mpr c48
                      clear c48
                      by_cases c49 : x7_2.length < 8796093022208
                      · rw [if_pos c49] at H
                        have LMc49 := Aside0.mk c49
                        clear c49
                        obtain ⟨y138, hy138⟩ : ∃ y_ : List (S64), y_ = (x7_2 ++ [(⟨x8_1, x9_2⟩ : S64)]) := ⟨_, rfl⟩
                        replace H : (spec_neWhole.l1 k2 a0 a1 a2 y138 x8_1 (wrap64 (x9_2 + 1))) = some r := by first | (rw [hy138]; with_reducible exact H) | (have H2_ := (Option.bind_some _ _).symm.trans H; rw [hy138]; with_reducible exact H2_) | (have H2_ := (Option.bind_some _ _).symm.trans H; with_reducible exact H2_) | with_reducible exact H | (rw [hy138]; exact H) | exact H
                        have Ny138 := Aside0.mk hy138
                        clear hy138
                        have H' := Aside0.mk H
                        clear H
                        go_wp2_with (first | ((with_reducible refine gate_builtin (b := .append) (xs := #[.tmp 71, .tmp 75]) rfl ?_); at_builtin; refine Kd.R_append k64 (w0 := w) w.heap.size rfl (.tmp 71) (.tmp 75) 22 64 (.agg #[(.int .i64 0), (.int .i64 0)]) 16 rfl Try.underlying22 info64 rfl (by decide) (by omega) u7 x7_2 (⟨x8_1, x9_2⟩ : S64) [.int .i64 x8_1, .int .i64 x9_2] (fun _ => True) (fun _ => False) rfl rfl ?aP (fun _ hk => hk.elim) ?aF ?aO ?aB ?aS ?aL ?_; (case aP => exact k64_mkM _ _ _ (⟨x8_1, x9_2⟩ : S64)); (case aB => exact (by repeat (first | (with_reducible first | exact HB.out | apply below_alloc | apply pw_below_drewN | apply below_drew1) | exact HB.out))); (case aF => exact (fun _ _ => trivial)); (case aO => exact (by (with_reducible repeat (first | apply Kd.R_alloc | apply Kd.R_drewN | apply Kd.R_drew)); exact HO_7.out)); (case aS => exact (below_size (by repeat (first | (with_reducible first | exact HB.out | apply below_alloc | apply pw_below_drewN | apply below_drew1) | exact HB.out)))); (case aL => have := LMc49.out; omega); intro v139 w50 ho hb hg hat; rw [← Ny138.out] at ho; have n0_ := Aside0.mk (hb); have n1_ := Aside0.mk (ho); clear HB; clear HO_7; have HB := n0_; have HO140 := n1_; clear n0_ n1_; clear ho hb hg hat))
                        go_roundg k2
                        case measure => have := HK1.out; have := HK2.out; omega
                        case rel => exact ⟨(y138), (wrap64 (x9_2 + 1)), (by first | rfl | (simp; done) | (simp [*]; done)), H', ⟨by have := HK1.out; have := HK2.out; omega⟩, ⟨by (with_reducible repeat (first | apply Kd.R_alloc | apply Kd.R_drewN | apply Kd.R_drew)); exact HO140.out⟩, ⟨by repeat (first | (with_reducible first | exact HB.out | apply below_alloc | apply pw_below_drewN | apply below_drew1) | exact HB.out)⟩⟩
                      · rw [if_neg c49] at H
                        exact absurd H (by simp)
                    · rw [if_neg c48] at H
                      have c48b0 : (x9_2 == (wrap64 (x8_1 + 1))) = false := beq_eq_false_iff_ne.mpr c48
                      have c48b1 : (x9_2 != (wrap64 (x8_1 + 1))) = true := bne_iff_ne.mpr c48
                      by_cases c51 : a1 = 1
                      · rw [if_pos c51] at H
                        have c51b0 : (a1 == 1) = true := beq_iff_eq.mpr c51
                        have c51b1 : (a1 != 1) = false := bne_eq_false_iff_eq.mpr c51
                        clear c51
                        by_cases c52 : x9_2 = (wrap64 (a0 - 1))
                        · rw [if_pos c52] at H
                          have c52b0 : (x9_2 == (wrap64 (a0 - 1))) = true := beq_iff_eq.mpr c52
                          have c52b1 : (x9_2 != (wrap64 (a0 - 1))) = false := bne_eq_false_iff_eq.mpr c52
                          clear c52
                          by_cases c53 : x7_2.length < 8796093022208
                          · rw [if_pos c53] at H
                            have LMc53 := Aside0.mk c53
                            clear c53
                            obtain ⟨y141, hy141⟩ : ∃ y_ : List (S64), y_ = (x7_2 ++ [(⟨x8_1, x9_2⟩ : S64)]) := ⟨_, rfl⟩
                            replace H : (spec_neWhole.l1 k2 a0 a1 a2 y141 x8_1 (wrap64 (x9_2 + 1))) = some r := by first | (rw [hy141]; with_reducible exact H) | (have H2_ := (Option.bind_some _ _).symm.trans H; rw [hy141]; with_reducible exact H2_) | (have H2_ := (Option.bind_some _ _).symm.trans H; with_reducible exact H2_) | with_reducible exact H | (rw [hy141]; exact H) | exact H
                            have Ny141 := Aside0.mk hy141
                            clear hy141
                            have H' := Aside0.mk H
                            clear H
                            go_wp2_with (first | ((with_reducible refine gate_builtin (b := .append) (xs := #[.tmp 71, .tmp 75]) rfl ?_); at_builtin; refine Kd.R_append k64 (w0 := w) w.heap.size rfl (.tmp 71) (.tmp 75) 22 64 (.agg #[(.int .i64 0), (.int .i64 0)]) 16 rfl Try.underlying22 info64 rfl (by decide) (by omega) u7 x7_2 (⟨x8_1, x9_2⟩ : S64) [.int .i64 x8_1, .int .i64 x9_2] (fun _ => True) (fun _ => False) rfl rfl ?aP (fun _ hk => hk.elim) ?aF ?aO ?aB ?aS ?aL ?_; (case aP => exact k64_mkM _ _ _ (⟨x8_1, x9_2⟩ : S64)); (case aB => exact (by repeat (first | (with_reducible first | exact HB.out | apply below_alloc | apply pw_below_drewN | apply below_drew1) | exact HB.out))); (case aF => exact (fun _ _ => trivial)); (case aO => exact (by (with_reducible repeat (first | apply Kd.R_alloc | apply Kd.R_drewN | apply Kd.R_drew)); exact HO_7.out)); (case aS => exact (below_size (by repeat (first | (with_reducible first | exact HB.out | apply below_alloc | apply pw_below_drewN | apply below_drew1) | exact HB.out)))); (case aL => have := LMc53.out; omega); intro v142 w54 ho hb hg hat; rw [← Ny141.out] at ho; have n0_ := Aside0.mk (hb); have n1_ := Aside0.mk (ho); clear HB; clear HO_7; have HB := n0_; have HO143 := n1_; clear n0_ n1_; clear ho hb hg hat))
                            go_roundg k2
                            case measure => have := HK1.out; have := HK2.out; omega
                            case rel => exact ⟨(y141), (wrap64 (x9_2 + 1)), (by first | rfl | (simp; done) | (simp [*]; done)), H', ⟨by have := HK1.out; have := HK2.out; omega⟩, ⟨by (with_reducible repeat (first | apply Kd.R_alloc | apply Kd.R_drewN | apply Kd.R_drew)); exact HO143.out⟩, ⟨by repeat (first | (with_reducible first | exact HB.out | apply below_alloc | apply pw_below_drewN | apply below_drew1) | exact HB.out)⟩⟩
                          · rw [if_neg c53] at H
                            exact absurd H (by simp)
                        · rw [if_neg c52] at H
                          have c52b0 : (x9_2 == (wrap64 (a0 - 1))) = false := beq_eq_false_iff_ne.mpr c52
                          have c52b1 : (x9_2 != (wrap64 (a0 - 1))) = true := bne_iff_ne.mpr c52
                          by_cases c55 : a1 = 2
                          · rw [if_pos c55] at H
                            have c55b0 : (a1 == 2) = true := beq_iff_eq.mpr c55
                            have c55b1 : (a1 != 2) = false := bne_eq_false_iff_eq.mpr c55
                            clear c55
                            by_cases c56 : x9_2 = a2
                            · rw [if_pos c56] at H
                              have c56b0 : (x9_2 == a2) = true := beq_iff_eq.mpr c56
                              have c56b1 : (x9_2 != a2) = false := bne_eq_false_iff_eq.mpr c56
                              clear c56
                              by_cases c57 : x7_2.length < 8796093022208
                              · rw [if_pos c57] at H
                                have LMc57 := Aside0.mk c57
                                clear c57
                                obtain ⟨y144, hy144⟩ : ∃ y_ : List (S64), y_ = (x7_2 ++ [(⟨x8_1, x9_2⟩ : S64)]) := ⟨_, rfl⟩
                                replace H : (spec_neWhole.l1 k2 a0 a1 a2 y144 x8_1 (wrap64 (x9_2 + 1))) = some r := by first | (rw [hy144]; with_reducible exact H) | (have H2_ := (Option.bind_some _ _).symm.trans H; rw [hy144]; with_reducible exact H2_) | (have H2_ := (Option.bind_some _ _).symm.trans H; with_reducible exact H2_) | with_reducible exact H | (rw [hy144]; exact H) | exact H
                                have Ny144 := Aside0.mk hy144
                                clear hy144
                                have H' := Aside0.mk H
                                clear H
                                go_wp2_with (first | ((with_reducible refine gate_builtin (b := .append) (xs := #[.tmp 71, .tmp 75]) rfl ?_); at_builtin; refine Kd.R_append k64 (w0 := w) w.heap.size rfl (.tmp 71) (.tmp 75) 22 64 (.agg #[(.int .i64 0), (.int .i64 0)]) 16 rfl Try.underlying22 info64 rfl (by decide) (by omega) u7 x7_2 (⟨x8_1, x9_2⟩ : S64) [.int .i64 x8_1, .int .i64 x9_2] (fun _ => True) (fun _ => False) rfl rfl ?aP (fun _ hk => hk.elim) ?aF ?aO ?aB ?aS ?aL ?_; (case aP => exact k64_mkM _ _ _ (⟨x8_1, x9_2⟩ : S64)); (case aB => exact (by repeat (first | (with_reducible first | exact HB.out | apply below_alloc | apply pw_below_drewN | apply below_drew1) | exact HB.out))); (case aF => exact (fun _ _ => trivial)); (case aO => exact (by (with_reducible repeat (first | apply Kd.R_alloc | apply Kd.R_drewN | apply Kd.R_drew)); exact HO_7.out)); (case aS => exact (below_size (by repeat (first | (with_reducible first | exact HB.out | apply below_alloc | apply pw_below_drewN | apply below_drew1) | exact HB.out)))); (case aL => have := LMc57.out; omega); intro v145 w58 ho hb hg hat; rw [← Ny144.out] at ho; have n0_ := Aside0.mk (hb); have n1_ := Aside0.mk (ho); clear HB; clear HO_7; have HB := n0_; have HO146 := n1_; clear n0_ n1_; clear ho hb hg hat))
                                go_roundg k2
                                case measure => have := HK1.out; have := HK2.out; omega
                                case rel => exact ⟨(y144), (wrap64 (x9_2 + 1)), (by first | rfl | (simp; done) | (simp [*]; done)), H', ⟨by have := HK1.out; have := HK2.out; omega⟩, ⟨by (with_reducible repeat (first | apply Kd.R_alloc | apply Kd.R_drewN | apply Kd.R_drew)); exact HO146.out⟩, ⟨by repeat (first | (with_reducible first | exact HB.out | apply below_alloc | apply pw_below_drewN | apply below_drew1) | exact HB.out)⟩⟩
                              · rw [if_neg c57] at H
                                exact absurd H (by simp)
                            · rw [if_neg c56] at H
                              have c56b0 : (x9_2 == a2) = false := beq_eq_false_iff_ne.mpr c56
                              have c56b1 : (x9_2 != a2) = true := bne_iff_ne.mpr c56
                              by_cases c59 : a1 = 3
                              · rw [if_pos c59] at H
                                have c59b0 : (a1 == 3) = true := beq_iff_eq.mpr c59
                                have c59b1 : (a1 != 3) = false := bne_eq_false_iff_eq.mpr c59
                                clear c59
                                by_cases c60 : x7_2.length < 8796093022208
                                · rw [if_pos c60] at H
                                  have LMc60 := Aside0.mk c60
                                  clear c60
                                  obtain ⟨y147, hy147⟩ : ∃ y_ : List (S64), y_ = (x7_2 ++ [(⟨x8_1, x9_2⟩ : S64)]) := ⟨_, rfl⟩
                                  replace H : (spec_neWhole.l1 k2 a0 a1 a2 y147 x8_1 (wrap64 (x9_2 + 1))) = some r := by first | (rw [hy147]; with_reducible exact H) | (have H2_ := (Option.bind_some _ _).symm.trans H; rw [hy147]; with_reducible exact H2_) | (have H2_ := (Option.bind_some _ _).symm.trans H; with_reducible exact H2_) | with_reducible exact H | (rw [hy147]; exact H) | exact H
                                  have Ny147 := Aside0.mk hy147
                                  clear hy147
                                  have H' := Aside0.mk H
                                  clear H
                                  go_wp2_with (first | ((with_reducible refine gate_builtin (b := .append) (xs := #[.tmp 71, .tmp 75]) rfl ?_); at_builtin; refine Kd.R_append k64 (w0 := w) w.heap.size rfl (.tmp 71) (.tmp 75) 22 64 (.agg #[(.int .i64 0), (.int .i64 0)]) 16 rfl Try.underlying22 info64 rfl (by decide) (by omega) u7 x7_2 (⟨x8_1, x9_2⟩ : S64) [.int .i64 x8_1, .int .i64 x9_2] (fun _ => True) (fun _ => False) rfl rfl ?aP (fun _ hk => hk.elim) ?aF ?aO ?aB ?aS ?aL ?_; (case aP => exact k64_mkM _ _ _ (⟨x8_1, x9_2⟩ : S64)); (case aB => exact (by repeat (first | (with_reducible first | exact HB.out | apply below_alloc | apply pw_below_drewN | apply below_drew1) | exact HB.out))); (case aF => exact (fun _ _ => trivial)); (case aO => exact (by (with_reducible repeat (first | apply Kd.R_alloc | apply Kd.R_drewN | apply Kd.R_drew)); exact HO_7.out)); (case aS => exact (below_size (by repeat (first | (with_reducible first | exact HB.out | apply below_alloc | apply pw_below_drewN | apply below_drew1) | exact HB.out)))); (case aL => have := LMc60.out; omega); intro v148 w61 ho hb hg hat; rw [← Ny147.out] at ho; have n0_ := Aside0.mk (hb); have n1_ := Aside0.mk (ho); clear HB; clear HO_7; have HB := n0_; have HO149 := n1_; clear n0_ n1_; clear ho hb hg hat))
                                  go_roundg k2
                                  case measure => have := HK1.out; have := HK2.out; omega
                                  case rel => exact ⟨(y147), (wrap64 (x9_2 + 1)), (by first | rfl | (simp; done) | (simp [*]; done)), H', ⟨by have := HK1.out; have := HK2.out; omega⟩, ⟨by (with_reducible repeat (first | apply Kd.R_alloc | apply Kd.R_drewN | apply Kd.R_drew)); exact HO149.out⟩, ⟨by repeat (first | (with_reducible first | exact HB.out | apply below_alloc | apply pw_below_drewN | apply below_drew1) | exact HB.out)⟩⟩
                                · rw [if_neg c60] at H
                                  exact absurd H (by simp)
                              · rw [if_neg c59] at H
                                have c59b0 : (a1 == 3) = false := beq_eq_false_iff_ne.mpr c59
                                have c59b1 : (a1 != 3) = true := bne_iff_ne.mpr c59
                                have H' := Aside0.mk H
                                clear H
                                go_wp2
                                go_roundg k2
                                case measure => have := HK1.out; have := HK2.out; omega
                                case rel => exact ⟨(x7_2), (wrap64 (x9_2 + 1)), (by first | rfl | (simp; done) | (simp [*]; done)), H', ⟨by have := HK1.out; have := HK2.out; omega⟩, ⟨by (with_reducible repeat (first | apply Kd.R_alloc | apply Kd.R_drewN | apply Kd.R_drew)); exact HO_7.out⟩, ⟨by repeat (first | (with_reducible first | exact HB.out | apply below_alloc | apply pw_below_drewN | apply below_drew1) | exact HB.out)⟩⟩
                          · rw [if_neg c55] at H
                            have c55b0 : (a1 == 2) = false := beq_eq_false_iff_ne.mpr c55
                            have c55b1 : (a1 != 2) = true := bne_iff_ne.mpr c55
                            by_cases c62 : a1 = 3
                            · rw [if_pos c62] at H
                              have c62b0 : (a1 == 3) = true := beq_iff_eq.mpr c62
                              have c62b1 : (a1 != 3) = false := bne_eq_false_iff_eq.mpr c62
                              clear c62
                              by_cases c63 : x7_2.length < 8796093022208
                              · rw [if_pos c63] at H
                                have LMc63 := Aside0.mk c63
                                clear c63
                                obtain ⟨y150, hy150⟩ : ∃ y_ : List (S64), y_ = (x7_2 ++ [(⟨x8_1, x9_2⟩ : S64)]) := ⟨_, rfl⟩
                                replace H : (spec_neWhole.l1 k2 a0 a1 a2 y150 x8_1 (wrap64 (x9_2 + 1))) = some r := by first | (rw [hy150]; with_reducible exact H) | (have H2_ := (Option.bind_some _ _).symm.trans H; rw [hy150]; with_reducible exact H2_) | (have H2_ := (Option.bind_some _ _).symm.trans H; with_reducible exact H2_) | with_reducible exact H | (rw [hy150]; exact H) | exact H
                                have Ny150 := Aside0.mk hy150
                                clear hy150
                                have H' := Aside0.mk H
                                clear H
                                go_wp2_with (first | ((with_reducible refine gate_builtin (b := .append) (xs := #[.tmp 71, .tmp 75]) rfl ?_); at_builtin; refine Kd.R_append k64 (w0 := w) w.heap.size rfl (.tmp 71) (.tmp 75) 22 64 (.agg #[(.int .i64 0), (.int .i64 0)]) 16 rfl Try.underlying22 info64 rfl (by decide) (by omega) u7 x7_2 (⟨x8_1, x9_2⟩ : S64) [.int .i64 x8_1, .int .i64 x9_2] (fun _ => True) (fun _ => False) rfl rfl ?aP (fun _ hk => hk.elim) ?aF ?aO ?aB ?aS ?aL ?_; (case aP => exact k64_mkM _ _ _ (⟨x8_1, x9_2⟩ : S64)); (case aB => exact (by repeat (first | (with_reducible first | exact HB.out | apply below_alloc | apply pw_below_drewN | apply below_drew1) | exact HB.out))); (case aF => exact (fun _ _ => trivial)); (case aO => exact (by (with_reducible repeat (first | apply Kd.R_alloc | apply Kd.R_drewN | apply Kd.R_drew)); exact HO_7.out)); (case aS => exact (below_size (by repeat (first | (with_reducible first | exact HB.out | apply below_alloc | apply pw_below_drewN | apply below_drew1) | exact HB.out)))); (case aL => have := LMc63.out; omega); intro v151 w64 ho hb hg hat; rw [← Ny150.out] at ho; have n0_ := Aside0.mk (hb); have n1_ := Aside0.mk (ho); clear HB; clear HO_7; have HB := n0_; have HO152 := n1_; clear n0_ n1_; clear ho hb hg hat))
                                go_roundg k2
                                case measure => have := HK1.out; have := HK2.out; omega
                                case rel => exact ⟨(y150), (wrap64 (x9_2 + 1)), (by first | rfl | (simp; done) | (simp [*]; done)), H', ⟨by have := HK1.out; have := HK2.out; omega⟩, ⟨by (with_reducible repeat (first | apply Kd.R_alloc | apply Kd.R_drewN | apply Kd.R_drew)); exact HO152.out⟩, ⟨by repeat (first | (with_reducible first | exact HB.out | apply below_alloc | apply pw_below_drewN | apply below_drew1) | exact HB.out)⟩⟩
                              · rw [if_neg c63] at H
                                exact absurd H (by simp)
                            · rw [if_neg c62] at H
                              have c62b0 : (a1 == 3) = false := beq_eq_false_iff_ne.mpr c62
                              have c62b1 : (a1 != 3) = true := bne_iff_ne.mpr c62
                              have H' := Aside0.mk H
                              clear H
                              go_wp2
                              go_roundg k2
                              case measure => have := HK1.out; have := HK2.out; omega
                              case rel => exact ⟨(x7_2), (wrap64 (x9_2 + 1)), (by first | rfl | (simp; done) | (simp [*]; done)), H', ⟨by have := HK1.out; have := HK2.out; omega⟩, ⟨by (with_reducible repeat (first | apply Kd.R_alloc | apply Kd.R_drewN | apply Kd.R_drew)); exact HO_7.out⟩, ⟨by repeat (first | (with_reducible first | exact HB.out | apply below_alloc | apply pw_below_drewN | apply below_drew1) | exact HB.out)⟩⟩
                      · rw [if_neg c51] at H
                        have c51b0 : (a1 == 1) = false := beq_eq_false_iff_ne.mpr c51
                        have c51b1 : (a1 != 1) = true := bne_iff_ne.mpr c51
                        by_cases c65 : a1 = 2
                        · rw [if_pos c65] at H
                          have c65b0 : (a1 == 2) = true := beq_iff_eq.mpr c65
                          have c65b1 : (a1 != 2) = false := bne_eq_false_iff_eq.mpr c65
                          clear c65
                          by_cases c66 : x9_2 = a2
                          · rw [if_pos c66] at H
                            have c66b0 : (x9_2 == a2) = true := beq_iff_eq.mpr c66
                            have c66b1 : (x9_2 != a2) = false := bne_eq_false_iff_eq.mpr c66
                            clear c66
                            by_cases c67 : x7_2.length < 8796093022208
                            · rw [if_pos c67] at H
                              have LMc67 := Aside0.mk c67
                              clear c67
                              obtain ⟨y153, hy153⟩ : ∃ y_ : List (S64), y_ = (x7_2 ++ [(⟨x8_1, x9_2⟩ : S64)]) := ⟨_, rfl⟩
                              replace H : (spec_neWhole.l1 k2 a0 a1 a2 y153 x8_1 (wrap64 (x9_2 + 1))) = some r := by first | (rw [hy153]; with_reducible exact H) | (have H2_ := (Option.bind_some _ _).symm.trans H; rw [hy153]; with_reducible exact H2_) | (have H2_ := (Option.bind_some _ _).symm.trans H; with_reducible exact H2_) | with_reducible exact H | (rw [hy153]; exact H) | exact H
                              have Ny153 := Aside0.mk hy153
                              clear hy153
                              have H' := Aside0.mk H
                              clear H
                              go_wp2_with (first | ((with_reducible refine gate_builtin (b := .append) (xs := #[.tmp 71, .tmp 75]) rfl ?_); at_builtin; refine Kd.R_append k64 (w0 := w) w.heap.size rfl (.tmp 71) (.tmp 75) 22 64 (.agg #[(.int .i64 0), (.int .i64 0)]) 16 rfl Try.underlying22 info64 rfl (by decide) (by omega) u7 x7_2 (⟨x8_1, x9_2⟩ : S64) [.int .i64 x8_1, .int .i64 x9_2] (fun _ => True) (fun _ => False) rfl rfl ?aP (fun _ hk => hk.elim) ?aF ?aO ?aB ?aS ?aL ?_; (case aP => exact k64_mkM _ _ _ (⟨x8_1, x9_2⟩ : S64)); (case aB => exact (by repeat (first | (with_reducible first | exact HB.out | apply below_alloc | apply pw_below_drewN | apply below_drew1) | exact HB.out))); (case aF => exact (fun _ _ => trivial)); (case aO => exact (by (with_reducible repeat (first | apply Kd.R_alloc | apply Kd.R_drewN | apply Kd.R_drew)); exact HO_7.out)); (case aS => exact (below_size (by repeat (first | (with_reducible first | exact HB.out | apply below_alloc | apply pw_below_drewN | apply below_drew1) | exact HB.out)))); (case aL => have := LMc67.out; omega); intro v154 w68 ho hb hg hat; rw [← Ny153.out] at ho; have n0_ := Aside0.mk (hb); have n1_ := Aside0.mk (ho); clear HB; clear HO_7; have HB := n0_; have HO155 := n1_; clear n0_ n1_; clear ho hb hg hat))
                              go_roundg k2
                              case measure => have := HK1.out; have := HK2.out; omega
                              case rel => exact ⟨(y153), (wrap64 (x9_2 + 1)), (by first | rfl | (simp; done) | (simp [*]; done)), H', ⟨by have := HK1.out; have := HK2.out; omega⟩, ⟨by (with_reducible repeat (first | apply Kd.R_alloc | apply Kd.R_drewN | apply Kd.R_drew)); exact HO155.out⟩, ⟨by repeat (first | (with_reducible first | exact HB.out | apply below_alloc | apply pw_below_drewN | apply below_drew1) | exact HB.out)⟩⟩
                            · rw [if_neg c67] at H
                              exact absurd H (by simp)
                          · rw [if_neg c66] at H
                            have c66b0 : (x9_2 == a2) = false := beq_eq_false_iff_ne.mpr c66
                            have c66b1 : (x9_2 != a2) = true := bne_iff_ne.mpr c66
                            by_cases c69 : a1 = 3
                            · rw [if_pos c69] at H
                              have c69b0 : (a1 == 3) = true := beq_iff_eq.mpr c69
                              have c69b1 : (a1 != 3) = false := bne_eq_false_iff_eq.mpr c69
                              clear c69
                              by_cases c70 : x7_2.length < 8796093022208
                              · rw [if_pos c70] at H
                                have LMc70 := Aside0.mk c70
                                clear c70
                                obtain ⟨y156, hy156⟩ : ∃ y_ : List (S64), y_ = (x7_2 ++ [(⟨x8_1, x9_2⟩ : S64)]) := ⟨_, rfl⟩
                                replace H : (spec_neWhole.l1 k2 a0 a1 a2 y156 x8_1 (wrap64 (x9_2 + 1))) = some r := by first | (rw [hy156]; with_reducible exact H) | (have H2_ := (Option.bind_some _ _).symm.trans H; rw [hy156]; with_reducible exact H2_) | (have H2_ := (Option.bind_some _ _).symm.trans H; with_reducible exact H2_) | with_reducible exact H | (rw [hy156]; exact H) | exact H
                                have Ny156 := Aside0.mk hy156
                                clear hy156
                                have H' := Aside0.mk H
                                clear H
                                go_wp2_with (first | ((with_reducible refine gate_builtin (b := .append) (xs := #[.tmp 71, .tmp 75]) rfl ?_); at_builtin; refine Kd.R_append k64 (w0 := w) w.heap.size rfl (.tmp 71) (.tmp 75) 22 64 (.agg #[(.int .i64 0), (.int .i64 0)]) 16 rfl Try.underlying22 info64 rfl (by decide) (by omega) u7 x7_2 (⟨x8_1, x9_2⟩ : S64) [.int .i64 x8_1, .int .i64 x9_2] (fun _ => True) (fun _ => False) rfl rfl ?aP (fun _ hk => hk.elim) ?aF ?aO ?aB ?aS ?aL ?_; (case aP => exact k64_mkM _ _ _ (⟨x8_1, x9_2⟩ : S64)); (case aB => exact (by repeat (first | (with_reducible first | exact HB.out | apply below_alloc | apply pw_below_drewN | apply below_drew1) | exact HB.out))); (case aF => exact (fun _ _ => trivial)); (case aO => exact (by (with_reducible repeat (first | apply Kd.R_alloc | apply Kd.R_drewN | apply Kd.R_drew)); exact HO_7.out)); (case aS => exact (below_size (by repeat (first | (with_reducible first | exact HB.out | apply below_alloc | apply pw_below_drewN | apply below_drew1) | exact HB.out)))); (case aL => have := LMc70.out; omega); intro v157 w71 ho hb hg hat; rw [← Ny156.out] at ho; have n0_ := Aside0.mk (hb); have n1_ := Aside0.mk (ho); clear HB; clear HO_7; have HB := n0_; have HO158 := n1_; clear n0_ n1_; clear ho hb hg hat))
                                go_roundg k2
                                case measure => have := HK1.out; have := HK2.out; omega
                                case rel => exact ⟨(y156), (wrap64 (x9_2 + 1)), (by first | rfl | (simp; done) | (simp [*]; done)), H', ⟨by have := HK1.out; have := HK2.out; omega⟩, ⟨by (with_reducible repeat (first | apply Kd.R_alloc | apply Kd.R_drewN | apply Kd.R_drew)); exact HO158.out⟩, ⟨by repeat (first | (with_reducible first | exact HB.out | apply below_alloc | apply pw_below_drewN | apply below_drew1) | exact HB.out)⟩⟩
                              · rw [if_neg c70] at H
                                exact absurd H (by simp)
                            · rw [if_neg c69] at H
                              have c69b0 : (a1 == 3) = false := beq_eq_false_iff_ne.mpr c69
                              have c69b1 : (a1 != 3) = true := bne_iff_ne.mpr c69
                              have H' := Aside0.mk H
                              clear H
                              go_wp2
                              go_roundg k2
                              case measure => have := HK1.out; have := HK2.out; omega
                              case rel => exact ⟨(x7_2), (wrap64 (x9_2 + 1)), (by first | rfl | (simp; done) | (simp [*]; done)), H', ⟨by have := HK1.out; have := HK2.out; omega⟩, ⟨by (with_reducible repeat (first | apply Kd.R_alloc | apply Kd.R_drewN | apply Kd.R_drew)); exact HO_7.out⟩, ⟨by repeat (first | (with_reducible first | exact HB.out | apply below_alloc | apply pw_below_drewN | apply below_drew1) | exact HB.out)⟩⟩
                        · rw [if_neg c65] at H
                          have c65b0 : (a1 == 2) = false := beq_eq_false_iff_ne.mpr c65
                          have c65b1 : (a1 != 2) = true := bne_iff_ne.mpr c65
                          by_cases c72 : a1 = 3
                          · rw [if_pos c72] at H
                            have c72b0 : (a1 == 3) = true := beq_iff_eq.mpr c72
                            have c72b1 : (a1 != 3) = false := bne_eq_false_iff_eq.mpr c72
                            clear c72
                            by_cases c73 : x7_2.length < 8796093022208
                            · rw [if_pos c73] at H
                              have LMc73 := Aside0.mk c73
                              clear c73
                              obtain ⟨y159, hy159⟩ : ∃ y_ : List (S64), y_ = (x7_2 ++ [(⟨x8_1, x9_2⟩ : S64)]) := ⟨_, rfl⟩
                              replace H : (spec_neWhole.l1 k2 a0 a1 a2 y159 x8_1 (wrap64 (x9_2 + 1))) = some r := by first | (rw [hy159]; with_reducible exact H) | (have H2_ := (Option.bind_some _ _).symm.trans H; rw [hy159]; with_reducible exact H2_) | (have H2_ := (Option.bind_some _ _).symm.trans H; with_reducible exact H2_) | with_reducible exact H | (rw [hy159]; exact H) | exact H
                              have Ny159 := Aside0.mk hy159
                              clear hy159
                              have H' := Aside0.mk H
                              clear H
                              go_wp2_with (first | ((with_reducible refine gate_builtin (b := .append) (xs := #[.tmp 71, .tmp 75]) rfl ?_); at_builtin; refine Kd.R_append k64 (w0 := w) w.heap.size rfl (.tmp 71) (.tmp 75) 22 64 (.agg #[(.int .i64 0), (.int .i64 0)]) 16 rfl Try.underlying22 info64 rfl (by decide) (by omega) u7 x7_2 (⟨x8_1, x9_2⟩ : S64) [.int .i64 x8_1, .int .i64 x9_2] (fun _ => True) (fun _ => False) rfl rfl ?aP (fun _ hk => hk.elim) ?aF ?aO ?aB ?aS ?aL ?_; (case aP => exact k64_mkM _ _ _ (⟨x8_1, x9_2⟩ : S64)); (case aB => exact (by repeat (first | (with_reducible first | exact HB.out | apply below_alloc | apply pw_below_drewN | apply below_drew1) | exact HB.out))); (case aF => exact (fun _ _ => trivial)); (case aO => exact (by (with_reducible repeat (first | apply Kd.R_alloc | apply Kd.R_drewN | apply Kd.R_drew)); exact HO_7.out)); (case aS => exact (below_size (by repeat (first | (with_reducible first | exact HB.out | apply below_alloc | apply pw_below_drewN | apply below_drew1) | exact HB.out)))); (case aL => have := LMc73.out; omega); intro v160 w74 ho hb hg hat; rw [← Ny159.out] at ho; have n0_ := Aside0.mk (hb); have n1_ := Aside0.mk (ho); clear HB; clear HO_7; have HB := n0_; have HO161 := n1_; clear n0_ n1_; clear ho hb hg hat))
                              go_roundg k2
                              case measure => have := HK1.out; have := HK2.out; omega
                              case rel => exact ⟨(y159), (wrap64 (x9_2 + 1)), (by first | rfl | (simp; done) | (simp [*]; done)), H', ⟨by have := HK1.out; have := HK2.out; omega⟩, ⟨by (with_reducible repeat (first | apply Kd.R_alloc | apply Kd.R_drewN | apply Kd.R_drew)); exact HO161.out⟩, ⟨by repeat (first | (with_reducible first | exact HB.out | apply below_alloc | apply pw_below_drewN | apply below_drew1) | exact HB.out)⟩⟩
                            · rw [if_neg c73] at H
                              exact absurd H (by simp)
                          · rw [if_neg c72] at H
                            have c72b0 : (a1 == 3) = false := beq_eq_false_iff_ne.mpr c72
                            have c72b1 : (a1 != 3) = true := bne_iff_ne.mpr c72
                            have H' := Aside0.mk H
                            clear H
                            go_wp2
                            go_roundg k2
                            case measure => have := HK1.out; have := HK2.out; omega
                            case rel => exact ⟨(x7_2), (wrap64 (x9_2 + 1)), (by first | rfl | (simp; done) | (simp [*]; done)), H', ⟨by have := HK1.out; have := HK2.out; omega⟩, ⟨by (with_reducible repeat (first | apply Kd.R_alloc | apply Kd.R_drewN | apply Kd.R_drew)); exact HO_7.out⟩, ⟨by repeat (first | (with_reducible first | exact HB.out | apply below_alloc | apply pw_below_drewN | apply below_drew1) | exact HB.out)⟩⟩
                  · rw [if_neg c47] at H
                    have c47b0 : (a1 == 0) = false := beq_eq_false_iff_ne.mpr c47
                    have c47b1 : (a1 != 0) = true := bne_iff_ne.mpr c47
                    by_cases c75 : a1 = 1
                    · rw [if_pos c75] at H
                      have c75b0 : (a1 == 1) = true := beq_iff_eq.mpr c75
                      have c75b1 : (a1 != 1) = false := bne_eq_false_iff_eq.mpr c75
                      clear c75
                      by_cases c76 : x9_2 = (wrap64 (x8_1 + 1))
                      · rw [if_pos c76] at H
                        have c76b0 : (x9_2 == (wrap64 (x8_1 + 1))) = true := beq_iff_eq.mpr c76
                        have c76b1 : (x9_2 != (wrap64 (x8_1 + 1))) = false := bne_eq_false_iff_eq.mpr c76
                        clear c76
                        by_cases c77 : x7_2.length < 8796093022208
                        · rw [if_pos c77] at H
                          have LMc77 := Aside0.mk c77
                          clear c77
                          obtain ⟨y162, hy162⟩ : ∃ y_ : List (S64), y_ = (x7_2 ++ [(⟨x8_1, x9_2⟩ : S64)]) := ⟨_, rfl⟩
                          replace H : (spec_neWhole.l1 k2 a0 a1 a2 y162 x8_1 (wrap64 (x9_2 + 1))) = some r := by first | (rw [hy162]; with_reducible exact H) | (have H2_ := (Option.bind_some _ _).symm.trans H; rw [hy162]; with_reducible exact H2_) | (have H2_ := (Option.bind_some _ _).symm.trans H; with_reducible exact H2_) | with_reducible exact H | (rw [hy162]; exact H) | exact H
                          have Ny162 := Aside0.mk hy162
                          clear hy162
                          have H' := Aside0.mk H
                          clear H
                          go_wp2_with (first | ((with_reducible refine gate_builtin (b := .append) (xs := #[.tmp 71, .tmp 75]) rfl ?_); at_builtin; refine Kd.R_append k64 (w0 := w) w.heap.size rfl (.tmp 71) (.tmp 75) 22 64 (.agg #[(.int .i64 0), (.int .i64 0)]) 16 rfl Try.underlying22 info64 rfl (by decide) (by omega) u7 x7_2 (⟨x8_1, x9_2⟩ : S64) [.int .i64 x8_1, .int .i64 x9_2] (fun _ => True) (fun _ => False) rfl rfl ?aP (fun _ hk => hk.elim) ?aF ?aO ?aB ?aS ?aL ?_; (case aP => exact k64_mkM _ _ _ (⟨x8_1, x9_2⟩ : S64)); (case aB => exact (by repeat (first | (with_reducible first | exact HB.out | apply below_alloc | apply pw_below_drewN | apply below_drew1) | exact HB.out))); (case aF => exact (fun _ _ => trivial)); (case aO => exact (by (with_reducible repeat (first | apply Kd.R_alloc | apply Kd.R_drewN | apply Kd.R_drew)); exact HO_7.out)); (case aS => exact (below_size (by repeat (first | (with_reducible first | exact HB.out | apply below_alloc | apply pw_below_drewN | apply below_drew1) | exact HB.out)))); (case aL => have := LMc77.out; omega); intro v163 w78 ho hb hg hat; rw [← Ny162.out] at ho; have n0_ := Aside0.mk (hb); have n1_ := Aside0.mk (ho); clear HB; clear HO_7; have HB := n0_; have HO164 := n1_; clear n0_ n1_; clear ho hb hg hat))
                          go_roundg k2
                          case measure => have := HK1.out; have := HK2.out; omega
                          case rel => exact ⟨(y162), (wrap64 (x9_2 + 1)), (by first | rfl | (simp; done) | (simp [*]; done)), H', ⟨by have := HK1.out; have := HK2.out; omega⟩, ⟨by (with_reducible repeat (first | apply Kd.R_alloc | apply Kd.R_drewN | apply Kd.R_drew)); exact HO164.out⟩, ⟨by repeat (first | (with_reducible first | exact HB.out | apply below_alloc | apply pw_below_drewN | apply below_drew1) | exact HB.out)⟩⟩
                        · rw [if_neg c77] at H
                          exact absurd H (by simp)
                      · rw [if_neg c76] at H
                        have c76b0 : (x9_2 == (wrap64 (x8_1 + 1))) = false := beq_eq_false_iff_ne.mpr c76
                        have c76b1 : (x9_2 != (wrap64 (x8_1 + 1))) = true := bne_iff_ne.mpr c76
                        by_cases c79 : x9_2 = (wrap64 (a0 - 1))
                        · rw [if_pos c79] at H
                          have c79b0 : (x9_2 == (wrap64 (a0 - 1))) = true := beq_iff_eq.mpr c79
                          have c79b1 : (x9_2 != (wrap64 (a0 - 1))) = false := bne_eq_false_iff_eq.mpr c79
                          clear c79
                          by_cases c80 : x7_2.length < 8796093022208
                          · rw [if_pos c80] at H
                            have LMc80 := Aside0.mk c80
                            clear c80
                            obtain ⟨y165, hy165⟩ : ∃ y_ : List (S64), y_ = (x7_2 ++ [(⟨x8_1, x9_2⟩ : S64)]) := ⟨_, rfl⟩
                            replace H : (spec_neWhole.l1 k2 a0 a1 a2 y165 x8_1 (wrap64 (x9_2 + 1))) = some r := by first | (rw [hy165]; with_reducible exact H) | (have H2_ := (Option.bind_some _ _).symm.trans H; rw [hy165]; with_reducible exact H2_) | (have H2_ := (Option.bind_some _ _).symm.trans H; with_reducible exact H2_) | with_reducible exact H | (rw [hy165]; exact H) | exact H
                            have Ny165 := Aside0.mk hy165
                            clear hy165
                            have H' := Aside0.mk H
                            clear H
                            go_wp2_with (first | ((with_reducible refine gate_builtin (b := .append) (xs := #[.tmp 71, .tmp 75]) rfl ?_); at_builtin; refine Kd.R_append k64 (w0 := w) w.heap.size rfl (.tmp 71) (.tmp 75) 22 64 (.agg #[(.int .i64 0), (.int .i64 0)]) 16 rfl Try.underlying22 info64 rfl (by decide) (by omega) u7 x7_2 (⟨x8_1, x9_2⟩ : S64) [.int .i64 x8_1, .int .i64 x9_2] (fun _ => True) (fun _ => False) rfl rfl ?aP (fun _ hk => hk.elim) ?aF ?aO ?aB ?aS ?aL ?_; (case aP => exact k64_mkM _ _ _ (⟨x8_1, x9_2⟩ : S64)); (case aB => exact (by repeat (first | (with_reducible first | exact HB.out | apply below_alloc | apply pw_below_drewN | apply below_drew1) | exact HB.out))); (case aF => exact (fun _ _ => trivial)); (case aO => exact (by (with_reducible repeat (first | apply Kd.R_alloc | apply Kd.R_drewN | apply Kd.R_drew)); exact HO_7.out)); (case aS => exact (below_size (by repeat (first | (with_reducible first | exact HB.out | apply below_alloc | apply pw_below_drewN | apply below_drew1) | exact HB.out)))); (case aL => have := LMc80.out; omega); intro v166 w81 ho hb hg hat; rw [← Ny165.out] at ho; have n0_ := Aside0.mk (hb); have n1_ := Aside0.mk (ho); clear HB; clear HO_7; have HB := n0_; have HO167 := n1_; clear n0_ n1_; clear ho hb hg hat))
                            go_roundg k2
                            case measure => have := HK1.out; have := HK2.out; omega
                            case rel => exact ⟨(y165), (wrap64 (x9_2 + 1)), (by first | rfl | (simp; done) | (simp [*]; done)), H', ⟨by have := HK1.out; have := HK2.out; omega⟩, ⟨by (with_reducible repeat (first | apply Kd.R_alloc | apply Kd.R_drewN | apply Kd.R_drew)); exact HO167.out⟩, ⟨by repeat (first | (with_reducible first | exact HB.out | apply below_alloc | apply pw_below_drewN | apply below_drew1) | exact HB.out)⟩⟩
                          · rw [if_neg c80] at H
                            exact absurd H (by simp)
                        · rw [if_neg c79] at H
                          have c79b0 : (x9_2 == (wrap64 (a0 - 1))) = false := beq_eq_false_iff_ne.mpr c79
                          have c79b1 : (x9_2 != (wrap64 (a0 - 1))) = true := bne_iff_ne.mpr c79
                          by_cases c82 : a1 = 2
                          · rw [if_pos c82] at H
                            have c82b0 : (a1 == 2) = true := beq_iff_eq.mpr c82
                            have c82b1 : (a1 != 2) = false := bne_eq_false_iff_eq.mpr c82
                            clear c82
                            by_cases c83 : x9_2 = a2
                            · rw [if_pos c83] at H
                              have c83b0 : (x9_2 == a2) = true := beq_iff_eq.mpr c83
                              have c83b1 : (x9_2 != a2) = false := bne_eq_false_iff_eq.mpr c83
                              clear c83
                              by_cases c84 : x7_2.length < 8796093022208
                              · rw [if_pos c84] at H
                                have LMc84 := Aside0.mk c84
                                clear c84
                                obtain ⟨y168, hy168⟩ : ∃ y_ : List (S64), y_ = (x7_2 ++ [(⟨x8_1, x9_2⟩ : S64)]) := ⟨_, rfl⟩
                                replace H : (spec_neWhole.l1 k2 a0 a1 a2 y168 x8_1 (wrap64 (x9_2 + 1))) = some r := by first | (rw [hy168]; with_reducible exact H) | (have H2_ := (Option.bind_some _ _).symm.trans H; rw [hy168]; with_reducible exact H2_) | (have H2_ := (Option.bind_some _ _).symm.trans H; with_reducible exact H2_) | with_reducible exact H | (rw [hy168]; exact H) | exact H
                                have Ny168 := Aside0.mk hy168
                                clear hy168
                                have H' := Aside0.mk H
                                clear H
                                go_wp2_with (first | ((with_reducible refine gate_builtin (b := .append) (xs := #[.tmp 71, .tmp 75]) rfl ?_); at_builtin; refine Kd.R_append k64 (w0 := w) w.heap.size rfl (.tmp 71) (.tmp 75) 22 64 (.agg #[(.int .i64 0), (.int .i64 0)]) 16 rfl Try.underlying22 info64 rfl (by decide) (by omega) u7 x7_2 (⟨x8_1, x9_2⟩ : S64) [.int .i64 x8_1, .int .i64 x9_2] (fun _ => True) (fun _ => False) rfl rfl ?aP (fun _ hk => hk.elim) ?aF ?aO ?aB ?aS ?aL ?_; (case aP => exact k64_mkM _ _ _ (⟨x8_1, x9_2⟩ : S64)); (case aB => exact (by repeat (first | (with_reducible first | exact HB.out | apply below_alloc | apply pw_below_drewN | apply below_drew1) | exact HB.out))); (case aF => exact (fun _ _ => trivial)); (case aO => exact (by (with_reducible repeat (first | apply Kd.R_alloc | apply Kd.R_drewN | apply Kd.R_drew)); exact HO_7.out)); (case aS => exact (below_size (by repeat (first | (with_reducible first | exact HB.out | apply below_alloc | apply pw_below_drewN | apply below_drew1) | exact HB.out)))); (case aL => have := LMc84.out; omega); intro v169 w85 ho hb hg hat; rw [← Ny168.out] at ho; have n0_ := Aside0.mk (hb); have n1_ := Aside0.mk (ho); clear HB; clear HO_7; have HB := n0_; have HO170 := n1_; clear n0_ n1_; clear ho hb hg hat))
                                go_roundg k2
                                case measure => have := HK1.out; have := HK2.out; omega
                                case rel => exact ⟨(y168), (wrap64 (x9_2 + 1)), (by first | rfl | (simp; done) | (simp [*]; done)), H', ⟨by have := HK1.out; have := HK2.out; omega⟩, ⟨by (with_reducible repeat (first | apply Kd.R_alloc | apply Kd.R_drewN | apply Kd.R_drew)); exact HO170.out⟩, ⟨by repeat (first | (with_reducible first | exact HB.out | apply below_alloc | apply pw_below_drewN | apply below_drew1) | exact HB.out)⟩⟩
                              · rw [if_neg c84] at H
                                exact absurd H (by simp)
                            · rw [if_neg c83] at H
                              have c83b0 : (x9_2 == a2) = false := beq_eq_false_iff_ne.mpr c83
                              have c83b1 : (x9_2 != a2) = true := bne_iff_ne.mpr c83
                              by_cases c86 : a1 = 3
                              · rw [if_pos c86] at H
                                have c86b0 : (a1 == 3) = true := beq_iff_eq.mpr c86
                                have c86b1 : (a1 != 3) = false := bne_eq_false_iff_eq.mpr c86
                                clear c86
                                by_cases c87 : x7_2.length < 8796093022208
                                · rw [if_pos c87] at H
                                  have LMc87 := Aside0.mk c87
                                  clear c87
                                  obtain ⟨y171, hy171⟩ : ∃ y_ : List (S64), y_ = (x7_2 ++ [(⟨x8_1, x9_2⟩ : S64)]) := ⟨_, rfl⟩
                                  replace H : (spec_neWhole.l1 k2 a0 a1 a2 y171 x8_1 (wrap64 (x9_2 + 1))) = some r := by first | (rw [hy171]; with_reducible exact H) | (have H2_ := (Option.bind_some _ _).symm.trans H; rw [hy171]; with_reducible exact H2_) | (have H2_ := (Option.bind_some _ _).symm.trans H; with_reducible exact H2_) | with_reducible exact H | (rw [hy171]; exact H) | exact H
                                  have Ny171 := Aside0.mk hy171
                                  clear hy171
                                  have H' := Aside0.mk H
                                  clear H
                                  go_wp2_with (first | ((with_reducible refine gate_builtin (b := .append) (xs := #[.tmp 71, .tmp 75]) rfl ?_); at_builtin; refine Kd.R_append k64 (w0 := w) w.heap.size rfl (.tmp 71) (.tmp 75) 22 64 (.agg #[(.int .i64 0), (.int .i64 0)]) 16 rfl Try.underlying22 info64 rfl (by decide) (by omega) u7 x7_2 (⟨x8_1, x9_2⟩ : S64) [.int .i64 x8_1, .int .i64 x9_2] (fun _ => True) (fun _ => False) rfl rfl ?aP (fun _ hk => hk.elim) ?aF ?aO ?aB ?aS ?aL ?_; (case aP => exact k64_mkM _ _ _ (⟨x8_1, x9_2⟩ : S64)); (case aB => exact (by repeat (first | (with_reducible first | exact HB.out | apply below_alloc | apply pw_below_drewN | apply below_drew1) | exact HB.out))); (case aF => exact (fun _ _ => trivial)); (case aO => exact (by (with_reducible repeat (first | apply Kd.R_alloc | apply Kd.R_drewN | apply Kd.R_drew)); exact HO_7.out)); (case aS => exact (below_size (by repeat (first | (with_reducible first | exact HB.out | apply below_alloc | apply pw_below_drewN | apply below_drew1) | exact HB.out)))); (case aL => have := LMc87.out; omega); intro v172 w88 ho hb hg hat; rw [← Ny171.out] at ho; have n0_ := Aside0.mk (hb); have n1_ := Aside0.mk (ho); clear HB; clear HO_7; have HB := n0_; have HO173 := n1_; clear n0_ n1_; clear ho hb hg hat))
                                  go_roundg k2
                                  case measure => have := HK1.out; have := HK2.out; omega
                                  case rel => exact ⟨(y171), (wrap64 (x9_2 + 1)), (by first | rfl | (simp; done) | (simp [*]; done)), H', ⟨by have := HK1.out; have := HK2.out; omega⟩, ⟨by (with_reducible repeat (first | apply Kd.R_alloc | apply Kd.R_drewN | apply Kd.R_drew)); exact HO173.out⟩, ⟨by repeat (first | (with_reducible first | exact HB.out | apply below_alloc | apply pw_below_drewN | apply below_drew1) | exact HB.out)⟩⟩
                                · rw [if_neg c87] at H
                                  exact absurd H (by simp)
                              · rw [if_neg c86] at H
                                have c86b0 : (a1 == 3) = false := beq_eq_false_iff_ne.mpr c86
                                have c86b1 : (a1 != 3) = true := bne_iff_ne.mpr c86
                                have H' := Aside0.mk H
                                clear H
                                go_wp2
                                go_roundg k2
                                case measure => have := HK1.out; have := HK2.out; omega
                                case rel => exact ⟨(x7_2), (wrap64 (x9_2 + 1)), (by first | rfl | (simp; done) | (simp [*]; done)), H', ⟨by have := HK1.out; have := HK2.out; omega⟩, ⟨by (with_reducible repeat (first | apply Kd.R_alloc | apply Kd.R_drewN | apply Kd.R_drew)); exact HO_7.out⟩, ⟨by repeat (first | (with_reducible first | exact HB.out | apply below_alloc | apply pw_below_drewN | apply below_drew1) | exact HB.out)⟩⟩
                          · rw [if_neg c82] at H
                            have c82b0 : (a1 == 2) = false := beq_eq_false_iff_ne.mpr c82
                            have c82b1 : (a1 != 2) = true := bne_iff_ne.mpr c82
                            by_cases c89 : a1 = 3
                            · rw [if_pos c89] at H
                              have c89b0 : (a1 == 3) = true := beq_iff_eq.mpr c89
                              have c89b1 : (a1 != 3) = false := bne_eq_false_iff_eq.mpr c89
                              clear c89
                              by_cases c90 : x7_2.length < 8796093022208
                              · rw [if_pos c90] at H
                                have LMc90 := Aside0.mk c90
                                clear c90
                                obtain ⟨y174, hy174⟩ : ∃ y_ : List (S64), y_ = (x7_2 ++ [(⟨x8_1, x9_2⟩ : S64)]) := ⟨_, rfl⟩
                                replace H : (spec_neWhole.l1 k2 a0 a1 a2 y174 x8_1 (wrap64 (x9_2 + 1))) = some r := by first | (rw [hy174]; with_reducible exact H) | (have H2_ := (Option.bind_some _ _).symm.trans H; rw [hy174]; with_reducible exact H2_) | (have H2_ := (Option.bind_some _ _).symm.trans H; with_reducible exact H2_) | with_reducible exact H | (rw [hy174]; exact H) | exact H
                                have Ny174 := Aside0.mk hy174
                                clear hy174
                                have H' := Aside0.mk H
                                clear H
                                go_wp2_with (first | ((with_reducible refine gate_builtin (b := .append) (xs := #[.tmp 71, .tmp 75]) rfl ?_); at_builtin; refine Kd.R_append k64 (w0 := w) w.heap.size rfl (.tmp 71) (.tmp 75) 22 64 (.agg #[(.int .i64 0), (.int .i64 0)]) 16 rfl Try.underlying22 info64 rfl (by decide) (by omega) u7 x7_2 (⟨x8_1, x9_2⟩ : S64) [.int .i64 x8_1, .int .i64 x9_2] (fun _ => True) (fun _ => False) rfl rfl ?aP (fun _ hk => hk.elim) ?aF ?aO ?aB ?aS ?aL ?_; (case aP => exact k64_mkM _ _ _ (⟨x8_1, x9_2⟩ : S64)); (case aB => exact (by repeat (first | (with_reducible first | exact HB.out | apply below_alloc | apply pw_below_drewN | apply below_drew1) | exact HB.out))); (case aF => exact (fun _ _ => trivial)); (case aO => exact (by (with_reducible repeat (first | apply Kd.R_alloc | apply Kd.R_drewN | apply Kd.R_drew)); exact HO_7.out)); (case aS => exact (below_size (by repeat (first | (with_reducible first | exact HB.out | apply below_alloc | apply pw_below_drewN | apply below_drew1) | exact HB.out)))); (case aL => have := LMc90.out; omega); intro v175 w91 ho hb hg hat; rw [← Ny174.out] at ho; have n0_ := Aside0.mk (hb); have n1_ := Aside0.mk (ho); clear HB; clear HO_7; have HB := n0_; have HO176 := n1_; clear n0_ n1_; clear ho hb hg hat))
                                go_roundg k2
                                case measure => have := HK1.out; have := HK2.out; omega
                                case rel => exact ⟨(y174), (wrap64 (x9_2 + 1)), (by first | rfl | (simp; done) | (simp [*]; done)), H', ⟨by have := HK1.out; have := HK2.out; omega⟩, ⟨by (with_reducible repeat (first | apply Kd.R_alloc | apply Kd.R_drewN | apply Kd.R_drew)); exact HO176.out⟩, ⟨by repeat (first | (with_reducible first | exact HB.out | apply below_alloc | apply pw_below_drewN | apply below_drew1) | exact HB.out)⟩⟩
                              · rw [if_neg c90] at H
                                exact absurd H (by simp)
                            · rw [if_neg c89] at H
                              have c89b0 : (a1 == 3) = false := beq_eq_false_iff_ne.mpr c89
                              have c89b1 : (a1 != 3) = true := bne_iff_ne.mpr c89
                              have H' := Aside0.mk H
                              clear H
                              go_wp2
                              go_roundg k2
                              case measure => have := HK1.out; have := HK2.out; omega
                              case rel => exact ⟨(x7_2), (wrap64 (x9_2 + 1)), (by first | rfl | (simp; done) | (simp [*]; done)), H', ⟨by have := HK1.out; have := HK2.out; omega⟩, ⟨by (with_reducible repeat (first | apply Kd.R_alloc | apply Kd.R_drewN | apply Kd.R_drew)); exact HO_7.out⟩, ⟨by repeat (first | (with_reducible first | exact HB.out | apply below_alloc | apply pw_below_drewN | apply below_drew1) | exact HB.out)⟩⟩
                    · rw [if_neg c75] at H
                      have c75b0 : (a1 == 1) = false := beq_eq_false_iff_ne.mpr c75
                      have c75b1 : (a1 != 1) = true := bne_iff_ne.mpr c75
                      by_cases c92 : a1 = 2
                      · rw [if_pos c92] at H
                        have c92b0 : (a1 == 2) = true := beq_iff_eq.mpr c92
                        have c92b1 : (a1 != 2) = false := bne_eq_false_iff_eq.mpr c92
                        clear c92
                        by_cases c93 : x9_2 = a2
                        · rw [if_pos c93] at H
                          have c93b0 : (x9_2 == a2) = true := beq_iff_eq.mpr c93
                          have c93b1 : (x9_2 != a2) = false := bne_eq_false_iff_eq.mpr c93
                          clear c93
                          by_cases c94 : x7_2.length < 8796093022208
                          · rw [if_pos c94] at H
                            have LMc94 := Aside0.mk c94
                            clear c94
                            obtain ⟨y177, hy177⟩ : ∃ y_ : List (S64), y_ = (x7_2 ++ [(⟨x8_1, x9_2⟩ : S64)]) := ⟨_, rfl⟩
                            replace H : (spec_neWhole.l1 k2 a0 a1 a2 y177 x8_1 (wrap64 (x9_2 + 1))) = some r := by first | (rw [hy177]; with_reducible exact H) | (have H2_ := (Option.bind_some _ _).symm.trans H; rw [hy177]; with_reducible exact H2_) | (have H2_ := (Option.bind_some _ _).symm.trans H; with_reducible exact H2_) | with_reducible exact H | (rw [hy177]; exact H) | exact H
                            have Ny177 := Aside0.mk hy177
                            clear hy177
                            have H' := Aside0.mk H
                            clear H
                            go_wp2_with (first | ((with_reducible refine gate_builtin (b := .append) (xs := #[.tmp 71, .tmp 75]) rfl ?_); at_builtin; refine Kd.R_append k64 (w0 := w) w.heap.size rfl (.tmp 71) (.tmp 75) 22 64 (.agg #[(.int .i64 0), (.int .i64 0)]) 16 rfl Try.underlying22 info64 rfl (by decide) (by omega) u7 x7_2 (⟨x8_1, x9_2⟩ : S64) [.int .i64 x8_1, .int .i64 x9_2] (fun _ => True) (fun _ => False) rfl rfl ?aP (fun _ hk => hk.elim) ?aF ?aO ?aB ?aS ?aL ?_; (case aP => exact k64_mkM _ _ _ (⟨x8_1, x9_2⟩ : S64)); (case aB => exact (by repeat (first | (with_reducible first | exact HB.out | apply below_alloc | apply pw_below_drewN | apply below_drew1) | exact HB.out))); (case aF => exact (fun _ _ => trivial)); (case aO => exact (by (with_reducible repeat (first | apply Kd.R_alloc | apply Kd.R_drewN | apply Kd.R_drew)); exact HO_7.out)); (case aS => exact (below_size (by repeat (first | (with_reducible first | exact HB.out | apply below_alloc | apply pw_below_drewN | apply below_drew1) | exact HB.out)))); (case aL => have := LMc94.out; omega); intro v178 w95 ho hb hg hat; rw [← Ny177.out] at ho; have n0_ := Aside0.mk (hb); have n1_ := Aside0.mk (ho); clear HB; clear HO_7; have HB := n0_; have HO179 := n1_; clear n0_ n1_; clear ho hb hg hat))
                            go_roundg k2
                            case measure => have := HK1.out; have := HK2.out; omega
                            case rel => exact ⟨(y177), (wrap64 (x9_2 + 1)), (by first | rfl | (simp; done) | (simp [*]; done)), H', ⟨by have := HK1.out; have := HK2.out; omega⟩, ⟨by (with_reducible repeat (first | apply Kd.R_alloc | apply Kd.R_drewN | apply Kd.R_drew)); exact HO179.out⟩, ⟨by repeat (first | (with_reducible first | exact HB.out | apply below_alloc | apply pw_below_drewN | apply below_drew1) | exact HB.out)⟩⟩
                          · rw [if_neg c94] at H
                            exact absurd H (by simp)
                        · rw [if_neg c93] at H
                          have c93b0 : (x9_2 == a2) = false := beq_eq_false_iff_ne.mpr c93
                          have c93b1 : (x9_2 != a2) = true := bne_iff_ne.mpr c93
                          by_cases c96 : a1 = 3
                          · rw [if_pos c96] at H
                            have c96b0 : (a1 == 3) = true := beq_iff_eq.mpr c96
                            have c96b1 : (a1 != 3) = false := bne_eq_false_iff_eq.mpr c96
                            clear c96
                            by_cases c97 : x7_2.length < 8796093022208
                            · rw [if_pos c97] at H
                              have LMc97 := Aside0.mk c97
                              clear c97
                              obtain ⟨y180, hy180⟩ : ∃ y_ : List (S64), y_ = (x7_2 ++ [(⟨x8_1, x9_2⟩ : S64)]) := ⟨_, rfl⟩
                              replace H : (spec_neWhole.l1 k2 a0 a1 a2 y180 x8_1 (wrap64 (x9_2 + 1))) = some r := by first | (rw [hy180]; with_reducible exact H) | (have H2_ := (Option.bind_some _ _).symm.trans H; rw [hy180]; with_reducible exact H2_) | (have H2_ := (Option.bind_some _ _).symm.trans H; with_reducible exact H2_) | with_reducible exact H | (rw [hy180]; exact H) | exact H
                              have Ny180 := Aside0.mk hy180
                              clear hy180
                              have H' := Aside0.mk H
                              clear H
                              go_wp2_with (first | ((with_reducible refine gate_builtin (b := .append) (xs := #[.tmp 71, .tmp 75]) rfl ?_); at_builtin; refine Kd.R_append k64 (w0 := w) w.heap.size rfl (.tmp 71) (.tmp 75) 22 64 (.agg #[(.int .i64 0), (.int .i64 0)]) 16 rfl Try.underlying22 info64 rfl (by decide) (by omega) u7 x7_2 (⟨x8_1, x9_2⟩ : S64) [.int .i64 x8_1, .int .i64 x9_2] (fun _ => True) (fun _ => False) rfl rfl ?aP (fun _ hk => hk.elim) ?aF ?aO ?aB ?aS ?aL ?_; (case aP => exact k64_mkM _ _ _ (⟨x8_1, x9_2⟩ : S64)); (case aB => exact (by repeat (first | (with_reducible first | exact HB.out | apply below_alloc | apply pw_below_drewN | apply below_drew1) | exact HB.out))); (case aF => exact (fun _ _ => trivial)); (case aO => exact (by (with_reducible repeat (first | apply Kd.R_alloc | apply Kd.R_drewN | apply Kd.R_drew)); exact HO_7.out)); (case aS => exact (below_size (by repeat (first | (with_reducible first | exact HB.out | apply below_alloc | apply pw_below_drewN | apply below_drew1) | exact HB.out)))); (case aL => have := LMc97.out; omega); intro v181 w98 ho hb hg hat; rw [← Ny180.out] at ho; have n0_ := Aside0.mk (hb); have n1_ := Aside0.mk (ho); clear HB; clear HO_7; have HB := n0_; have HO182 := n1_; clear n0_ n1_; clear ho hb hg hat))
                              go_roundg k2
                              case measure => have := HK1.out; have := HK2.out; omega
                              case rel => exact ⟨(y180), (wrap64 (x9_2 + 1)), (by first | rfl | (simp; done) | (simp [*]; done)), H', ⟨by have := HK1.out; have := HK2.out; omega⟩, ⟨by (with_reducible repeat (first | apply Kd.R_alloc | apply Kd.R_drewN | apply Kd.R_drew)); exact HO182.out⟩, ⟨by repeat (first | (with_reducible first | exact HB.out | apply below_alloc | apply pw_below_drewN | apply below_drew1) | exact HB.out)⟩⟩
                            · rw [if_neg c97] at H
                              exact absurd H (by simp)
                          · rw [if_neg c96] at H
                            have c96b0 : (a1 == 3) = false := beq_eq_false_iff_ne.mpr c96
                            have c96b1 : (a1 != 3) = true := bne_iff_ne.mpr c96
                            have H' := Aside0.mk H
                            clear H
                            go_wp2
                            go_roundg k2
                            case measure => have := HK1.out; have := HK2.out; omega
                            case rel => exact ⟨(x7_2), (wrap64 (x9_2 + 1)), (by first | rfl | (simp; done) | (simp [*]; done)), H', ⟨by have := HK1.out; have := HK2.out; omega⟩, ⟨by (with_reducible repeat (first | apply Kd.R_alloc | apply Kd.R_drewN | apply Kd.R_drew)); exact HO_7.out⟩, ⟨by repeat (first | (with_reducible first | exact HB.out | apply below_alloc | apply pw_below_drewN | apply below_drew1) | exact HB.out)⟩⟩
                      · rw [if_neg c92] at H
                        have c92b0 : (a1 == 2) = false := beq_eq_false_iff_ne.mpr c92
                        have c92b1 : (a1 != 2) = true := bne_iff_ne.mpr c92
                        by_cases c99 : a1 = 3
                        · rw [if_pos c99] at H
                          have c99b0 : (a1 == 3) = true := beq_iff_eq.mpr c99
                          have c99b1 : (a1 != 3) = false := bne_eq_false_iff_eq.mpr c99
                          clear c99
                          by_cases c100 : x7_2.length < 8796093022208
                          · rw [if_pos c100] at H
                            have LMc100 := Aside0.mk c100
                            clear c100
                            obtain ⟨y183, hy183⟩ : ∃ y_ : List (S64), y_ = (x7_2 ++ [(⟨x8_1, x9_2⟩ : S64)]) := ⟨_, rfl⟩
                            replace H : (spec_neWhole.l1 k2 a0 a1 a2 y183 x8_1 (wrap64 (x9_2 + 1))) = some r := by first | (rw [hy183]; with_reducible exact H) | (have H2_ := (Option.bind_some _ _).symm.trans H; rw [hy183]; with_reducible exact H2_) | (have H2_ := (Option.bind_some _ _).symm.trans H; with_reducible exact H2_) | with_reducible exact H | (rw [hy183]; exact H) | exact H
                            have Ny183 := Aside0.mk hy183
                            clear hy183
                            have H' := Aside0.mk H
                            clear H
                            go_wp2_with (first | ((with_reducible refine gate_builtin (b := .append) (xs := #[.tmp 71, .tmp 75]) rfl ?_); at_builtin; refine Kd.R_append k64 (w0 := w) w.heap.size rfl (.tmp 71) (.tmp 75) 22 64 (.agg #[(.int .i64 0), (.int .i64 0)]) 16 rfl Try.underlying22 info64 rfl (by decide) (by omega) u7 x7_2 (⟨x8_1, x9_2⟩ : S64) [.int .i64 x8_1, .int .i64 x9_2] (fun _ => True) (fun _ => False) rfl rfl ?aP (fun _ hk => hk.elim) ?aF ?aO ?aB ?aS ?aL ?_; (case aP => exact k64_mkM _ _ _ (⟨x8_1, x9_2⟩ : S64)); (case aB => exact (by repeat (first | (with_reducible first | exact HB.out | apply below_alloc | apply pw_below_drewN | apply below_drew1) | exact HB.out))); (case aF => exact (fun _ _ => trivial)); (case aO => exact (by (with_reducible repeat (first | apply Kd.R_alloc | apply Kd.R_drewN | apply Kd.R_drew)); exact HO_7.out)); (case aS => exact (below_size (by repeat (first | (with_reducible first | exact HB.out | apply below_alloc | apply pw_below_drewN | apply below_drew1) | exact HB.out)))); (case aL => have := LMc100.out; omega); intro v184 w101 ho hb hg hat; rw [← Ny183.out] at ho; have n0_ := Aside0.mk (hb); have n1_ := Aside0.mk (ho); clear HB; clear HO_7; have HB := n0_; have HO185 := n1_; clear n0_ n1_; clear ho hb hg hat))
                            go_roundg k2
                            case measure => have := HK1.out; have := HK2.out; omega
                            case rel => exact ⟨(y183), (wrap64 (x9_2 + 1)), (by first | rfl | (simp; done) | (simp [*]; done)), H', ⟨by have := HK1.out; have := HK2.out; omega⟩, ⟨by (with_reducible repeat (first | apply Kd.R_alloc | apply Kd.R_drewN | apply Kd.R_drew)); exact HO185.out⟩, ⟨by repeat (first | (with_reducible first | exact HB.out | apply below_alloc | apply pw_below_drewN | apply below_drew1) | exact HB.out)⟩⟩
                          · rw [if_neg c100] at H
                            exact absurd H (by simp)
                        · rw [if_neg c99] at H
                          have c99b0 : (a1 == 3) = false := beq_eq_false_iff_ne.mpr c99
                          have c99b1 : (a1 != 3) = true := bne_iff_ne.mpr c99
                          have H' := Aside0.mk H
                          clear H
                          go_wp2
                          go_roundg k2
                          case measure => have := HK1.out; have := HK2.out; omega
                          case rel => exact ⟨(x7_2), (wrap64 (x9_2 + 1)), (by first | rfl | (simp; done) | (simp [*]; done)), H', ⟨by have := HK1.out; have := HK2.out; omega⟩, ⟨by (with_reducible repeat (first | apply Kd.R_alloc | apply Kd.R_drewN | apply Kd.R_drew)); exact HO_7.out⟩, ⟨by repeat (first | (with_reducible first | exact HB.out | apply below_alloc | apply pw_below_drewN | apply below_drew1) | exact HB.out)⟩⟩
              · rw [if_neg c6] at H
                have c6b0 : (x8_1 == 0) = false := beq_eq_false_iff_ne.mpr c6
                have c6b1 : (x8_1 != 0) = true := bne_iff_ne.mpr c6
                by_cases c102 : x8_1 = a2
                · rw [if_pos c102] at H
                  have c102b0 : (x8_1 == a2) = true := beq_iff_eq.mpr c102
                  have c102b1 : (x8_1 != a2) = false := bne_eq_false_iff_eq.mpr c102
                  clear c102
                  by_cases c103 : a1 = 0
                  · rw [if_pos c103] at H
                    have c103b0 : (a1 == 0) = true := beq_iff_eq.mpr c103
                    have c103b1 : (a1 != 0) = false := bne_eq_false_iff_eq.mpr c103
                    clear c103
                    by_cases c104 : x9_2 = (wrap64 (x8_1 + 1))
                    · rw [if_pos c104] at H
                      have c104b0 : (x9_2 == (wrap64 (x8_1 + 1))) = true := beq_iff_eq.mpr c104
                      have c104b1 : (x9_2 != (wrap64 (x8_1 + 1))) = false := bne_eq_false_iff_eq.mpr c104
                      clear c104
                      by_cases c105 : x7_2.length < 8796093022208
                      · rw [if_pos c105] at H
                        have LMc105 := Aside0.mk c105
                        clear c105
                        obtain ⟨y186, hy186⟩ : ∃ y_ : List (S64), y_ = (x7_2 ++ [(⟨x8_1, x9_2⟩ : S64)]) := ⟨_, rfl⟩
                        replace H : (spec_neWhole.l1 k2 a0 a1 a2 y186 x8_1 (wrap64 (x9_2 + 1))) = some r := by first | (rw [hy186]; with_reducible exact H) | (have H2_ := (Option.bind_some _ _).symm.trans H; rw [hy186]; with_reducible exact H2_) | (have H2_ := (Option.bind_some _ _).symm.trans H; with_reducible exact H2_) | with_reducible exact H | (rw [hy186]; exact H) | exact H
                        have Ny186 := Aside0.mk hy186
                        clear hy186
                        have H' := Aside0.mk H
                        clear H
                        go_wp2_with (first | ((with_reducible refine gate_builtin (b := .append) (xs := #[.tmp 71, .tmp 75]) rfl ?_); at_builtin; refine Kd.R_append k64 (w0 := w) w.heap.size rfl (.tmp 71) (.tmp 75) 22 64 (.agg #[(.int .i64 0), (.int .i64 0)]) 16 rfl Try.underlying22 info64 rfl (by decide) (by omega) u7 x7_2 (⟨x8_1, x9_2⟩ : S64) [.int .i64 x8_1, .int .i64 x9_2] (fun _ => True) (fun _ => False) rfl rfl ?aP (fun _ hk => hk.elim) ?aF ?aO ?aB ?aS ?aL ?_; (case aP => exact k64_mkM _ _ _ (⟨x8_1, x9_2⟩ : S64)); (case aB => exact (by repeat (first | (with_reducible first | exact HB.out | apply below_alloc | apply pw_below_drewN | apply below_drew1) | exact HB.out))); (case aF => exact (fun _ _ => trivial)); (case aO => exact (by (with_reducible repeat (first | apply Kd.R_alloc | apply Kd.R_drewN | apply Kd.R_drew)); exact HO_7.out)); (case aS => exact (below_size (by repeat (first | (with_reducible first | exact HB.out | apply below_alloc | apply pw_below_drewN | apply below_drew1) | exact HB.out)))); (case aL => have := LMc105.out; omega); intro v187 w106 ho hb hg hat; rw [← Ny186.out] at ho; have n0_ := Aside0.mk (hb); have n1_ := Aside0.mk (ho); clear HB; clear HO_7; have HB := n0_; have HO188 := n1_; clear n0_ n1_; clear ho hb hg hat))
                        go_roundg k2
                        case measure => have := HK1.out; have := HK2.out; omega
                        case rel => exact ⟨(y186), (wrap64 (x9_2 + 1)), (by first | rfl | (simp; done) | (simp [*]; done)), H', ⟨by have := HK1.out; have := HK2.out; omega⟩, ⟨by (with_reducible repeat (first | apply Kd.R_alloc | apply Kd.R_drewN | apply Kd.R_drew)); exact HO188.out⟩, ⟨by repeat (first | (with_reducible first | exact HB.out | apply below_alloc | apply pw_below_drewN | apply below_drew1) | exact HB.out)⟩⟩
                      · rw [if_neg c105] at H
                        exact absurd H (by simp)
                    · rw [if_neg c104] at H
                      have c104b0 : (x9_2 == (wrap64 (x8_1 + 1))) = false := beq_eq_false_iff_ne.mpr c104
                      have c104b1 : (x9_2 != (wrap64 (x8_1 + 1))) = true := bne_iff_ne.mpr c104
                      by_cases c107 : a1 = 1
                      · rw [if_pos c107] at H
                        have c107b0 : (a1 == 1) = true := beq_iff_eq.mpr c107
                        have c107b1 : (a1 != 1) = false := bne_eq_false_iff_eq.mpr c107
                        clear c107
                        by_cases c108 : a1 = 2
                        · rw [if_pos c108] at H
                          have c108b0 : (a1 == 2) = true := beq_iff_eq.mpr c108
                          have c108b1 : (a1 != 2) = false := bne_eq_false_iff_eq.mpr c108
                          clear c108
                          by_cases c109 : x7_2.length < 8796093022208
                          · rw [if_pos c109] at H
                            have LMc109 := Aside0.mk c109
                            clear c109
                            obtain ⟨y189, hy189⟩ : ∃ y_ : List (S64), y_ = (x7_2 ++ [(⟨x8_1, x9_2⟩ : S64)]) := ⟨_, rfl⟩
                            replace H : (spec_neWhole.l1 k2 a0 a1 a2 y189 x8_1 (wrap64 (x9_2 + 1))) = some r := by first | (rw [hy189]; with_reducible exact H) | (have H2_ := (Option.bind_some _ _).symm.trans H; rw [hy189]; with_reducible exact H2_) | (have H2_ := (Option.bind_some _ _).symm.trans H; with_reducible exact H2_) | with_reducible exact H | (rw [hy189]; exact H) | exact H
                            have Ny189 := Aside0.mk hy189
                            clear hy189
                            have H' := Aside0.mk H
                            clear H
                            go_wp2_with (first | ((with_reducible refine gate_builtin (b := .append) (xs := #[.tmp 71, .tmp 75]) rfl ?_); at_builtin; refine Kd.R_append k64 (w0 := w) w.heap.size rfl (.tmp 71) (.tmp 75) 22 64 (.agg #[(.int .i64 0), (.int .i64 0)]) 16 rfl Try.underlying22 info64 rfl (by decide) (by omega) u7 x7_2 (⟨x8_1, x9_2⟩ : S64) [.int .i64 x8_1, .int .i64 x9_2] (fun _ => True) (fun _ => False) rfl rfl ?aP (fun _ hk => hk.elim) ?aF ?aO ?aB ?aS ?aL ?_; (case aP => exact k64_mkM _ _ _ (⟨x8_1, x9_2⟩ : S64)); (case aB => exact (by repeat (first | (with_reducible first | exact HB.out | apply below_alloc | apply pw_below_drewN | apply below_drew1) | exact HB.out))); (case aF => exact (fun _ _ => trivial)); (case aO => exact (by (with_reducible repeat (first | apply Kd.R_alloc | apply Kd.R_drewN | apply Kd.R_drew)); exact HO_7.out)); (case aS => exact (below_size (by repeat (first | (with_reducible first | exact HB.out | apply below_alloc | apply pw_below_drewN | apply below_drew1) | exact HB.out)))); (case aL => have := LMc109.out; omega); intro v190 w110 ho hb hg hat; rw [← Ny189.out] at ho; have n0_ := Aside0.mk (hb); have n1_ := Aside0.mk (ho); clear HB; clear HO_7; have HB := n0_; have HO191 := n1_; clear n0_ n1_; clear ho hb hg hat))
                            go_roundg k2
                            case measure => have := HK1.out; have := HK2.out; omega
                            case rel => exact ⟨(y189), (wrap64 (x9_2 + 1)), (by first | rfl | (simp; done) | (simp [*]; done)), H', ⟨by have := HK1.out; have := HK2.out; omega⟩, ⟨by (with_reducible repeat (first | apply Kd.R_alloc | apply Kd.R_drewN | apply Kd.R_drew)); exact HO191.out⟩, ⟨by repeat (first | (with_reducible first | exact HB.out | apply below_alloc | apply pw_below_drewN | apply below_drew1) | exact HB.out)⟩⟩
                          · rw [if_neg c109] at H
                            exact absurd H (by simp)
                        · rw [if_neg c108] at H
                          have c108b0 : (a1 == 2) = false := beq_eq_false_iff_ne.mpr c108
                          have c108b1 : (a1 != 2) = true := bne_iff_ne.mpr c108
                          by_cases c111 : a1 = 3
                          · rw [if_pos c111] at H
                            have c111b0 : (a1 == 3) = true := beq_iff_eq.mpr c111
                            have c111b1 : (a1 != 3) = false := bne_eq_false_iff_eq.mpr c111
                            clear c111
                            by_cases c112 : x7_2.length < 8796093022208
                            · rw [if_pos c112] at H
                              have LMc112 := Aside0.mk c112
                              clear c112
                              obtain ⟨y192, hy192⟩ : ∃ y_ : List (S64), y_ = (x7_2 ++ [(⟨x8_1, x9_2⟩ : S64)]) := ⟨_, rfl⟩
                              replace H : (spec_neWhole.l1 k2 a0 a1 a2 y192 x8_1 (wrap64 (x9_2 + 1))) = some r := by first | (rw [hy192]; with_reducible exact H) | (have H2_ := (Option.bind_some _ _).symm.trans H; rw [hy192]; with_reducible exact H2_) | (have H2_ := (Option.bind_some _ _).symm.trans H; with_reducible exact H2_) | with_reducible exact H | (rw [hy192]; exact H) | exact H
                              have Ny192 := Aside0.mk hy192
                              clear hy192
                              have H' := Aside0.mk H
                              clear H
                              go_wp2_with (first | ((with_reducible refine gate_builtin (b := .append) (xs := #[.tmp 71, .tmp 75]) rfl ?_); at_builtin; refine Kd.R_append k64 (w0 := w) w.heap.size rfl (.tmp 71) (.tmp 75) 22 64 (.agg #[(.int .i64 0), (.int .i64 0)]) 16 rfl Try.underlying22 info64 rfl (by decide) (by omega) u7 x7_2 (⟨x8_1, x9_2⟩ : S64) [.int .i64 x8_1, .int .i64 x9_2] (fun _ => True) (fun _ => False) rfl rfl ?aP (fun _ hk => hk.elim) ?aF ?aO ?aB ?aS ?aL ?_; (case aP => exact k64_mkM _ _ _ (⟨x8_1, x9_2⟩ : S64)); (case aB => exact (by repeat (first | (with_reducible first | exact HB.out | apply below_alloc | apply pw_below_drewN | apply below_drew1) | exact HB.out))); (case aF => exact (fun _ _ => trivial)); (case aO => exact (by (with_reducible repeat (first | apply Kd.R_alloc | apply Kd.R_drewN | apply Kd.R_drew)); exact HO_7.out)); (case aS => exact (below_size (by repeat (first | (with_reducible first | exact HB.out | apply below_alloc | apply pw_below_drewN | apply below_drew1) | exact HB.out)))); (case aL => have := LMc112.out; omega); intro v193 w113 ho hb hg hat; rw [← Ny192.out] at ho; have n0_ := Aside0.mk (hb); have n1_ := Aside0.mk (ho); clear HB; clear HO_7; have HB := n0_; have HO194 := n1_; clear n0_ n1_; clear ho hb hg hat))
                              go_roundg k2
                              case measure => have := HK1.out; have := HK2.out; omega
                              case rel => exact ⟨(y192), (wrap64 (x9_2 + 1)), (by first | rfl | (simp; done) | (simp [*]; done)), H', ⟨by have := HK1.out; have := HK2.out; omega⟩, ⟨by (with_reducible repeat (first | apply Kd.R_alloc | apply Kd.R_drewN | apply Kd.R_drew)); exact HO194.out⟩, ⟨by repeat (first | (with_reducible first | exact HB.out | apply below_alloc | apply pw_below_drewN | apply below_drew1) | exact HB.out)⟩⟩
                            · rw [if_neg c112] at H
                              exact absurd H (by simp)
                          · rw [if_neg c111] at H
                            have c111b0 : (a1 == 3) = false := beq_eq_false_iff_ne.mpr c111
                            have c111b1 : (a1 != 3) = true := bne_iff_ne.mpr c111
                            have H' := Aside0.mk H
                            clear H
                            go_wp2
                            go_roundg k2
                            case measure => have := HK1.out; have := HK2.out; omega
                            case rel => exact ⟨(x7_2), (wrap64 (x9_2 + 1)), (by first | rfl | (simp; done) | (simp [*]; done)), H', ⟨by have := HK1.out; have := HK2.out; omega⟩, ⟨by (with_reducible repeat (first | apply Kd.R_alloc | apply Kd.R_drewN | apply Kd.R_drew)); exact HO_7.out⟩, ⟨by repeat (first | (with_reducible first | exact HB.out | apply below_alloc | apply pw_below_drewN | apply below_drew1) | exact HB.out)⟩⟩
                      · rw [if_neg c107] at H
                        have c107b0 : (a1 == 1) = false := beq_eq_false_iff_ne.mpr c107
                        have c107b1 : (a1 != 1) = true := bne_iff_ne.mpr c107
                        by_cases c114 : a1 = 2
                        · rw [if_pos c114] at H
                          have c114b0 : (a1 == 2) = true := beq_iff_eq.mpr c114
                          have c114b1 : (a1 != 2) = false := bne_eq_false_iff_eq.mpr c114
                          clear c114
                          by_cases c115 : x7_2.length < 8796093022208
                          · rw [if_pos c115] at H
                            have LMc115 := Aside0.mk c115
                            clear c115
                            obtain ⟨y195, hy195⟩ : ∃ y_ : List (S64), y_ = (x7_2 ++ [(⟨x8_1, x9_2⟩ : S64)]) := ⟨_, rfl⟩
                            replace H : (spec_neWhole.l1 k2 a0 a1 a2 y195 x8_1 (wrap64 (x9_2 + 1))) = some r := by first | (rw [hy195]; with_reducible exact H) | (have H2_ := (Option.bind_some _ _).symm.trans H; rw [hy195]; with_reducible exact H2_) | (have H2_ := (Option.bind_some _ _).symm.trans H; with_reducible exact H2_) | with_reducible exact H | (rw [hy195]; exact H) | exact H
                            have Ny195 := Aside0.mk hy195
                            clear hy195
                            have H' := Aside0.mk H
                            clear H
                            go_wp2_with (first | ((with_reducible refine gate_builtin (b := .append) (xs := #[.tmp 71, .tmp 75]) rfl ?_); at_builtin; refine Kd.R_append k64 (w0 := w) w.heap.size rfl (.tmp 71) (.tmp 75) 22 64 (.agg #[(.int .i64 0), (.int .i64 0)]) 16 rfl Try.underlying22 info64 rfl (by decide) (by omega) u7 x7_2 (⟨x8_1, x9_2⟩ : S64) [.int .i64 x8_1, .int .i64 x9_2] (fun _ => True) (fun _ => False) rfl rfl ?aP (fun _ hk => hk.elim) ?aF ?aO ?aB ?aS ?aL ?_; (case aP => exact k64_mkM _ _ _ (⟨x8_1, x9_2⟩ : S64)); (case aB => exact (by repeat (first | (with_reducible first | exact HB.out | apply below_alloc | apply pw_below_drewN | apply below_drew1) | exact HB.out))); (case aF => exact (fun _ _ => trivial)); (case aO => exact (by (with_reducible repeat (first | apply Kd.R_alloc | apply Kd.R_drewN | apply Kd.R_drew)); exact HO_7.out)); (case aS => exact (below_size (by repeat (first | (with_reducible first | exact HB.out | apply below_alloc | apply pw_below_drewN | apply below_drew1) | exact HB.out)))); (case aL => have := LMc115.out; omega); intro v196 w116 ho hb hg hat; rw [← Ny195.out] at ho; have n0_ := Aside0.mk (hb); have n1_ := Aside0.mk (ho); clear HB; clear HO_7; have HB := n0_; have HO197 := n1_; clear n0_ n1_; clear ho hb hg hat))
                            go_roundg k2
                            case measure => have := HK1.out; have := HK2.out; omega
                            case rel => exact ⟨(y195), (wrap64 (x9_2 + 1)), (by first | rfl | (simp; done) | (simp [*]; done)), H', ⟨by have := HK1.out; have := HK2.out; omega⟩, ⟨by (with_reducible repeat (first | apply Kd.R_alloc | apply Kd.R_drewN | apply Kd.R_drew)); exact HO197.out⟩, ⟨by repeat (first | (with_reducible first | exact HB.out | apply below_alloc | apply pw_below_drewN | apply below_drew1) | exact HB.out)⟩⟩
                          · rw [if_neg c115] at H
                            exact absurd H (by simp)
                        · rw [if_neg c114] at H
                          have c114b0 : (a1 == 2) = false := beq_eq_false_iff_ne.mpr c114
                          have c114b1 : (a1 != 2) = true := bne_iff_ne.mpr c114
                          by_cases c117 : a1 = 3
                          · rw [if_pos c117] at H
                            have c117b0 : (a1 == 3) = true := beq_iff_eq.mpr c117
                            have c117b1 : (a1 != 3) = false := bne_eq_false_iff_eq.mpr c117
                            clear c117
                            by_cases c118 : x7_2.length < 8796093022208
                            · rw [if_pos c118] at H
                              have LMc118 := Aside0.mk c118
                              clear c118
                              obtain ⟨y198, hy198⟩ : ∃ y_ : List (S64), y_ = (x7_2 ++ [(⟨x8_1, x9_2⟩ : S64)]) := ⟨_, rfl⟩
                              replace H : (spec_neWhole.l1 k2 a0 a1 a2 y198 x8_1 (wrap64 (x9_2 + 1))) = some r := by first | (rw [hy198]; with_reducible exact H) | (have H2_ := (Option.bind_some _ _).symm.trans H; rw [hy198]; with_reducible exact H2_) | (have H2_ := (Option.bind_some _ _).symm.trans H; with_reducible exact H2_) | with_reducible exact H | (rw [hy198]; exact H) | exact H
                              have Ny198 := Aside0.mk hy198
                              clear hy198
                              have H' := Aside0.mk H
                              clear H
                              go_wp2_with (first | ((with_reducible refine gate_builtin (b := .append) (xs := #[.tmp 71, .tmp 75]) rfl ?_); at_builtin; refine Kd.R_append k64 (w0 := w) w.heap.size rfl (.tmp 71) (.tmp 75) 22 64 (.agg #[(.int .i64 0), (.int .i64 0)]) 16 rfl Try.underlying22 info64 rfl (by decide) (by omega) u7 x7_2 (⟨x8_1, x9_2⟩ : S64) [.int .i64 x8_1, .int .i64 x9_2] (fun _ => True) (fun _ => False) rfl rfl ?aP (fun _ hk => hk.elim) ?aF ?aO ?aB ?aS ?aL ?_; (case aP => exact k64_mkM _ _ _ (⟨x8_1, x9_2⟩ : S64)); (case aB => exact (by repeat (first | (with_reducible first | exact HB.out | apply below_alloc | apply pw_below_drewN | apply below_drew1) | exact HB.out))); (case aF => exact (fun _ _ => trivial)); (case aO => exact (by (with_reducible repeat (first | apply Kd.R_alloc | apply Kd.R_drewN | apply Kd.R_drew)); exact HO_7.out)); (case aS => exact (below_size (by repeat (first | (with_reducible first | exact HB.out | apply below_alloc | apply pw_below_drewN | apply below_drew1) | exact HB.out)))); (case aL => have := LMc118.out; omega); intro v199 w119 ho hb hg hat; rw [← Ny198.out] at ho; have n0_ := Aside0.mk (hb); have n1_ := Aside0.mk (ho); clear HB; clear HO_7; have HB := n0_; have HO200 := n1_; clear n0_ n1_; clear ho hb hg hat))
                              go_roundg k2
                              case measure => have := HK1.out; have := HK2.out; omega
                              case rel => exact ⟨(y198), (wrap64 (x9_2 + 1)), (by first | rfl | (simp; done) | (simp [*]; done)), H', ⟨by have := HK1.out; have := HK2.out; omega⟩, ⟨by (with_reducible repeat (first | apply Kd.R_alloc | apply Kd.R_drewN | apply Kd.R_drew)); exact HO200.out⟩, ⟨by repeat (first | (with_reducible first | exact HB.out | apply below_alloc | apply pw_below_drewN | apply below_drew1) | exact HB.out)⟩⟩
                            · rw [if_neg c118] at H
                              exact absurd H (by simp)
                          · rw [if_neg c117] at H
                            have c117b0 : (a1 == 3) = false := beq_eq_false_iff_ne.mpr c117
                            have c117b1 : (a1 != 3) = true := bne_iff_ne.mpr c117
                            have H' := Aside0.mk H
                            clear H
                            go_wp2
                            go_roundg k2
                            case measure => have := HK1.out; have := HK2.out; omega
                            case rel => exact ⟨(x7_2), (wrap64 (x9_2 + 1)), (by first | rfl | (simp; done) | (simp [*]; done)), H', ⟨by have := HK1.out; have := HK2.out; omega⟩, ⟨by (with_reducible repeat (first | apply Kd.R_alloc | apply Kd.R_drewN | apply Kd.R_drew)); exact HO_7.out⟩, ⟨by repeat (first | (with_reducible first | exact HB.out | apply below_alloc | apply pw_below_drewN | apply below_drew1) | exact HB.out)⟩⟩
                  · rw [if_neg c103] at H
                    have c103b0 : (a1 == 0) = false := beq_eq_false_iff_ne.mpr c103
                    have c103b1 : (a1 != 0) = true := bne_iff_ne.mpr c103
                    by_cases c120 : a1 = 1
                    · rw [if_pos c120] at H
                      have c120b0 : (a1 == 1) = true := beq_iff_eq.mpr c120
                      have c120b1 : (a1 != 1) = false := bne_eq_false_iff_eq.mpr c120
                      clear c120
                      by_cases c121 : x9_2 = (wrap64 (x8_1 + 1))
                      · rw [if_pos c121] at H
                        have c121b0 : (x9_2 == (wrap64 (x8_1 + 1))) = true := beq_iff_eq.mpr c121
                        have c121b1 : (x9_2 != (wrap64 (x8_1 + 1))) = false := bne_eq_false_iff_eq.mpr c121
                        clear c121
                        by_cases c122 : x7_2.length < 8796093022208
                        · rw [if_pos c122] at H
                          have LMc122 := Aside0.mk c122
                          clear c122
                          obtain ⟨y201, hy201⟩ : ∃ y_ : List (S64), y_ = (x7_2 ++ [(⟨x8_1, x9_2⟩ : S64)]) := ⟨_, rfl⟩
                          replace H : (spec_neWhole.l1 k2 a0 a1 a2 y201 x8_1 (wrap64 (x9_2 + 1))) = some r := by first | (rw [hy201]; with_reducible exact H) | (have H2_ := (Option.bind_some _ _).symm.trans H; rw [hy201]; with_reducible exact H2_) | (have H2_ := (Option.bind_some _ _).symm.trans H; with_reducible exact H2_) | with_reducible exact H | (rw [hy201]; exact H) | exact H
                          have Ny201 := Aside0.mk hy201
                          clear hy201
                          have H' := Aside0.mk H
                          clear H
                          go_wp2_with (first | ((with_reducible refine gate_builtin (b := .append) (xs := #[.tmp 71, .tmp 75]) rfl ?_); at_builtin; refine Kd.R_append k64 (w0 := w) w.heap.size rfl (.tmp 71) (.tmp 75) 22 64 (.agg #[(.int .i64 0), (.int .i64 0)]) 16 rfl Try.underlying22 info64 rfl (by decide) (by omega) u7 x7_2 (⟨x8_1, x9_2⟩ : S64) [.int .i64 x8_1, .int .i64 x9_2] (fun _ => True) (fun _ => False) rfl rfl ?aP (fun _ hk => hk.elim) ?aF ?aO ?aB ?aS ?aL ?_; (case aP => exact k64_mkM _ _ _ (⟨x8_1, x9_2⟩ : S64)); (case aB => exact (by repeat (first | (with_reducible first | exact HB.out | apply below_alloc | apply pw_below_drewN | apply below_drew1) | exact HB.out))); (case aF => exact (fun _ _ => trivial)); (case aO => exact (by (with_reducible repeat (first | apply Kd.R_alloc | apply Kd.R_drewN | apply Kd.R_drew)); exact HO_7.out)); (case aS => exact (below_size (by repeat (first | (with_reducible first | exact HB.out | apply below_alloc | apply pw_below_drewN | apply below_drew1) | exact HB.out)))); (case aL => have := LMc122.out; omega); intro v202 w123 ho hb hg hat; rw [← Ny201.out] at ho; have n0_ := Aside0.mk (hb); have n1_ := Aside0.mk (ho); clear HB; clear HO_7; have HB := n0_; have HO203 := n1_; clear n0_ n1_; clear ho hb hg hat))
                          go_roundg k2
                          case measure => have := HK1.out; have := HK2.out; omega
                          case rel => exact ⟨(y201), (wrap64 (x9_2 + 1)), (by first | rfl | (simp; done) | (simp [*]; done)), H', ⟨by have := HK1.out; have := HK2.out; omega⟩, ⟨by (with_reducible repeat (first | apply Kd.R_alloc | apply Kd.R_drewN | apply Kd.R_drew)); exact HO203.out⟩, ⟨by repeat (first | (with_reducible first | exact HB.out | apply below_alloc | apply pw_below_drewN | apply below_drew1) | exact HB.out)⟩⟩
                        · rw [if_neg c122] at H
                          exact absurd H (by simp)
                      · rw [if_neg c121] at H
                        have c121b0 : (x9_2 == (wrap64 (x8_1 + 1))) = false := beq_eq_false_iff_ne.mpr c121
                        have c121b1 : (x9_2 != (wrap64 (x8_1 + 1))) = true := bne_iff_ne.mpr c121
                        by_cases c124 : a1 = 2
                        · rw [if_pos c124] at H
                          have c124b0 : (a1 == 2) = true := beq_iff_eq.mpr c124
                          have c124b1 : (a1 != 2) = false := bne_eq_false_iff_eq.mpr c124
                          clear c124
                          by_cases c125 : x7_2.length < 8796093022208
                          · rw [if_pos c125] at H
                            have LMc125 := Aside0.mk c125
                            clear c125
                            obtain ⟨y204, hy204⟩ : ∃ y_ : List (S64), y_ = (x7_2 ++ [(⟨x8_1, x9_2⟩ : S64)]) := ⟨_, rfl⟩
                            replace H : (spec_neWhole.l1 k2 a0 a1 a2 y204 x8_1 (wrap64 (x9_2 + 1))) = some r := by first | (rw [hy204]; with_reducible exact H) | (have H2_ := (Option.bind_some _ _).symm.trans H; rw [hy204]; with_reducible exact H2_) | (have H2_ := (Option.bind_some _ _).symm.trans H; with_reducible exact H2_) | with_reducible exact H | (rw [hy204]; exact H) | exact H
                            have Ny204 := Aside0.mk hy204
                            clear hy204
                            have H' := Aside0.mk H
                            clear H
                            go_wp2_with (first | ((with_reducible refine gate_builtin (b := .append) (xs := #[.tmp 71, .tmp 75]) rfl ?_); at_builtin; refine Kd.R_append k64 (w0 := w) w.heap.size rfl (.tmp 71) (.tmp 75) 22 64 (.agg #[(.int .i64 0), (.int .i64 0)]) 16 rfl Try.underlying22 info64 rfl (by decide) (by omega) u7 x7_2 (⟨x8_1, x9_2⟩ : S64) [.int .i64 x8_1, .int .i64 x9_2] (fun _ => True) (fun _ => False) rfl rfl ?aP (fun _ hk => hk.elim) ?aF ?aO ?aB ?aS ?aL ?_; (case aP => exact k64_mkM _ _ _ (⟨x8_1, x9_2⟩ : S64)); (case aB => exact (by repeat (first | (with_reducible first | exact HB.out | apply below_alloc | apply pw_below_drewN | apply below_drew1) | exact HB.out))); (case aF => exact (fun _ _ => trivial)); (case aO => exact (by (with_reducible repeat (first | apply Kd.R_alloc | apply Kd.R_drewN | apply Kd.R_drew)); exact HO_7.out)); (case aS => exact (below_size (by repeat (first | (with_reducible first | exact HB.out | apply below_alloc | apply pw_below_drewN | apply below_drew1) | exact HB.out)))); (case aL => have := LMc125.out; omega); intro v205 w126 ho hb hg hat; rw [← Ny204.out] at ho; have n0_ := Aside0.mk (hb); have n1_ := Aside0.mk (ho); clear HB; clear HO_7; have HB := n0_; have HO206 := n1_; clear n0_ n1_; clear ho hb hg hat))
                            go_roundg k2
                            case measure => have := HK1.out; have := HK2.out; omega
                            case rel => exact ⟨(y204), (wrap64 (x9_2 + 1)), (by first | rfl | (simp; done) | (simp [*]; done)), H', ⟨by have := HK1.out; have := HK2.out; omega⟩, ⟨by (with_reducible repeat (first | apply Kd.R_alloc | apply Kd.R_drewN | apply Kd.R_drew)); exact HO206.out⟩, ⟨by repeat (first | (with_reducible first | exact HB.out | apply below_alloc | apply pw_below_drewN | apply below_drew1) | exact HB.out)⟩⟩
                          · rw [if_neg c125] at H
                            exact absurd H (by simp)
                        · rw [if_neg c124] at H
                          have c124b0 : (a1 == 2) = false := beq_eq_false_iff_ne.mpr c124
                          have c124b1 : (a1 != 2) = true := bne_iff_ne.mpr c124
                          by_cases c127 : a1 = 3
                          · rw [if_pos c127] at H
                            have c127b0 : (a1 == 3) = true := beq_iff_eq.mpr c127
                            have c127b1 : (a1 != 3) = false := bne_eq_false_iff_eq.mpr c127
                            clear c127
                            by_cases c128 : x7_2.length < 8796093022208
                            · rw [if_pos c128] at H
                              have LMc128 := Aside0.mk c128
                              clear c128
                              obtain ⟨y207, hy207⟩ : ∃ y_ : List (S64), y_ = (x7_2 ++ [(⟨x8_1, x9_2⟩ : S64)]) := ⟨_, rfl⟩
                              replace H : (spec_neWhole.l1 k2 a0 a1 a2 y207 x8_1 (wrap64 (x9_2 + 1))) = some r := by first | (rw [hy207]; with_reducible exact H) | (have H2_ := (Option.bind_some _ _).symm.trans H; rw [hy207]; with_reducible exact H2_) | (have H2_ := (Option.bind_some _ _).symm.trans H; with_reducible exact H2_) | with_reducible exact H | (rw [hy207]; exact H) | exact H
                              have Ny207 := Aside0.mk hy207
                              clear hy207
                              have H' := Aside0.mk H
                              clear H
                              go_wp2_with (first | ((with_reducible refine gate_builtin (b := .append) (xs := #[.tmp 71, .tmp 75]) rfl ?_); at_builtin; refine Kd.R_append k64 (w0 := w) w.heap.size rfl (.tmp 71) (.tmp 75) 22 64 (.agg #[(.int .i64 0), (.int .i64 0)]) 16 rfl Try.underlying22 info64 rfl (by decide) (by omega) u7 x7_2 (⟨x8_1, x9_2⟩ : S64) [.int .i64 x8_1, .int .i64 x9_2] (fun _ => True) (fun _ => False) rfl rfl ?aP (fun _ hk => hk.elim) ?aF ?aO ?aB ?aS ?aL ?_; (case aP => exact k64_mkM _ _ _ (⟨x8_1, x9_2⟩ : S64)); (case aB => exact (by repeat (first | (with_reducible first | exact HB.out | apply below_alloc | apply pw_below_drewN | apply below_drew1) | exact HB.out))); (case aF => exact (fun _ _ => trivial)); (case aO => exact (by (with_reducible repeat (first | apply Kd.R_alloc | apply Kd.R_drewN | apply Kd.R_drew)); exact HO_7.out)); (case aS => exact (below_size (by repeat (first | (with_reducible first | exact HB.out | apply below_alloc | apply pw_below_drewN | apply below_drew1) | exact HB.out)))); (case aL => have := LMc128.out; omega); intro v208 w129 ho hb hg hat; rw [← Ny207.out] at ho; have n0_ := Aside0.mk (hb); have n1_ := Aside0.mk (ho); clear HB; clear HO_7; have HB := n0_; have HO209 := n1_; clear n0_ n1_; clear ho hb hg hat))
                              go_roundg k2
                              case measure => have := HK1.out; have := HK2.out; omega
                              case rel => exact ⟨(y207), (wrap64 (x9_2 + 1)), (by first | rfl | (simp; done) | (simp [*]; done)), H', ⟨by have := HK1.out; have := HK2.out; omega⟩, ⟨by (with_reducible repeat (first | apply Kd.R_alloc | apply Kd.R_drewN | apply Kd.R_drew)); exact HO209.out⟩, ⟨by repeat (first | (with_reducible first | exact HB.out | apply below_alloc | apply pw_below_drewN | apply below_drew1) | exact HB.out)⟩⟩
                            · rw [if_neg c128] at H
                              exact absurd H (by simp)
                          · rw [if_neg c127] at H
                            have c127b0 : (a1 == 3) = false := beq_eq_false_iff_ne.mpr c127
                            have c127b1 : (a1 != 3) = true := bne_iff_ne.mpr c127
                            have H' := Aside0.mk H
                            clear H
                            go_wp2
                            go_roundg k2
                            case measure => have := HK1.out; have := HK2.out; omega
                            case rel => exact ⟨(x7_2), (wrap64 (x9_2 + 1)), (by first | rfl | (simp; done) | (simp [*]; done)), H', ⟨by have := HK1.out; have := HK2.out; omega⟩, ⟨by (with_reducible repeat (first | apply Kd.R_alloc | apply Kd.R_drewN | apply Kd.R_drew)); exact HO_7.out⟩, ⟨by repeat (first | (with_reducible first | exact HB.out | apply below_alloc | apply pw_below_drewN | apply below_drew1) | exact HB.out)⟩⟩
                    · rw [if_neg c120] at H
                      have c120b0 : (a1 == 1) = false := beq_eq_false_iff_ne.mpr c120
                      have c120b1 : (a1 != 1) = true := bne_iff_ne.mpr c120
                      by_cases c130 : a1 = 2
                      · rw [if_pos c130] at H
                        have c130b0 : (a1 == 2) = true := beq_iff_eq.mpr c130
                        have c130b1 : (a1 != 2) = false := bne_eq_false_iff_eq.mpr c130
                        clear c130
                        by_cases c131 : x7_2.length < 8796093022208
                        · rw [if_pos c131] at H
                          have LMc131 := Aside0.mk c131
                          clear c131
                          obtain ⟨y210, hy210⟩ : ∃ y_ : List (S64), y_ = (x7_2 ++ [(⟨x8_1, x9_2⟩ : S64)]) := ⟨_, rfl⟩
                          replace H : (spec_neWhole.l1 k2 a0 a1 a2 y210 x8_1 (wrap64 (x9_2 + 1))) = some r := by first | (rw [hy210]; with_reducible exact H) | (have H2_ := (Option.bind_some _ _).symm.trans H; rw [hy210]; with_reducible exact H2_) | (have H2_ := (Option.bind_some _ _).symm.trans H; with_reducible exact H2_) | with_reducible exact H | (rw [hy210]; exact H) | exact H
                          have Ny210 := Aside0.mk hy210
                          clear hy210
                          have H' := Aside0.mk H
                          clear H
                          go_wp2_with (first | ((with_reducible refine gate_builtin (b := .append) (xs := #[.tmp 71, .tmp 75]) rfl ?_); at_builtin; refine Kd.R_append k64 (w0 := w) w.heap.size rfl (.tmp 71) (.tmp 75) 22 64 (.agg #[(.int .i64 0), (.int .i64 0)]) 16 rfl Try.underlying22 info64 rfl (by decide) (by omega) u7 x7_2 (⟨x8_1, x9_2⟩ : S64) [.int .i64 x8_1, .int .i64 x9_2] (fun _ => True) (fun _ => False) rfl rfl ?aP (fun _ hk => hk.elim) ?aF ?aO ?aB ?aS ?aL ?_; (case aP => exact k64_mkM _ _ _ (⟨x8_1, x9_2⟩ : S64)); (case aB => exact (by repeat (first | (with_reducible first | exact HB.out | apply below_alloc | apply pw_below_drewN | apply below_drew1) | exact HB.out))); (case aF => exact (fun _ _ => trivial)); (case aO => exact (by (with_reducible repeat (first | apply Kd.R_alloc | apply Kd.R_drewN | apply Kd.R_drew)); exact HO_7.out)); (case aS => exact (below_size (by repeat (first | (with_reducible first | exact HB.out | apply below_alloc | apply pw_below_drewN | apply below_drew1) | exact HB.out)))); (case aL => have := LMc131.out; omega); intro v211 w132 ho hb hg hat; rw [← Ny210.out] at ho; have n0_ := Aside0.mk (hb); have n1_ := Aside0.mk (ho); clear HB; clear HO_7; have HB := n0_; have HO212 := n1_; clear n0_ n1_; clear ho hb hg hat))
                          go_roundg k2
                          case measure => have := HK1.out; have := HK2.out; omega
                          case rel => exact ⟨(y210), (wrap64 (x9_2 + 1)), (by first | rfl | (simp; done) | (simp [*]; done)), H', ⟨by have := HK1.out; have := HK2.out; omega⟩, ⟨by (with_reducible repeat (first | apply Kd.R_alloc | apply Kd.R_drewN | apply Kd.R_drew)); exact HO212.out⟩, ⟨by repeat (first | (with_reducible first | exact HB.out | apply below_alloc | apply pw_below_drewN | apply below_drew1) | exact HB.out)⟩⟩
                        · rw [if_neg c131] at H
                          exact absurd H (by simp)
                      · rw [if_neg c130] at H
                        have c130b0 : (a1 == 2) = false := beq_eq_false_iff_ne.mpr c130
                        have c130b1 : (a1 != 2) = true := bne_iff_ne.mpr c130
                        by_cases c133 : a1 = 3
                        · rw [if_pos c133] at H
                          have c133b0 : (a1 == 3) = true := beq_iff_eq.mpr c133
                          have c133b1 : (a1 != 3) = false := bne_eq_false_iff_eq.mpr c133
                          clear c133
                          by_cases c134 : x7_2.length < 8796093022208
                          · rw [if_pos c134] at H
                            have LMc134 := Aside0.mk c134
                            clear c134
                            obtain ⟨y213, hy213⟩ : ∃ y_ : List (S64), y_ = (x7_2 ++ [(⟨x8_1, x9_2⟩ : S64)]) := ⟨_, rfl⟩
                            replace H : (spec_neWhole.l1 k2 a0 a1 a2 y213 x8_1 (wrap64 (x9_2 + 1))) = some r := by first | (rw [hy213]; with_reducible exact H) | (have H2_ := (Option.bind_some _ _).symm.trans H; rw [hy213]; with_reducible exact H2_) | (have H2_ := (Option.bind_some _ _).symm.trans H; with_reducible exact H2_) | with_reducible exact H | (rw [hy213]; exact H) | exact H
                            have Ny213 := Aside0.mk hy213
                            clear hy213
                            have H' := Aside0.mk H
                            clear H
                            go_wp2_with (first | ((with_reducible refine gate_builtin (b := .append) (xs := #[.tmp 71, .tmp 75]) rfl ?_); at_builtin; refine Kd.R_append k64 (w0 := w) w.heap.size rfl (.tmp 71) (.tmp 75) 22 64 (.agg #[(.int .i64 0), (.int .i64 0)]) 16 rfl Try.underlying22 info64 rfl (by decide) (by omega) u7 x7_2 (⟨x8_1, x9_2⟩ : S64) [.int .i64 x8_1, .int .i64 x9_2] (fun _ => True) (fun _ => False) rfl rfl ?aP (fun _ hk => hk.elim) ?aF ?aO ?aB ?aS ?aL ?_; (case aP => exact k64_mkM _ _ _ (⟨x8_1, x9_2⟩ : S64)); (case aB => exact (by repeat (first | (with_reducible first | exact HB.out | apply below_alloc | apply pw_below_drewN | apply below_drew1) | exact HB.out))); (case aF => exact (fun _ _ => trivial)); (case aO => exact (by (with_reducible repeat (first | apply Kd.R_alloc | apply Kd.R_drewN | apply Kd.R_drew)); exact HO_7.out)); (case aS => exact (below_size (by repeat (first | (with_reducible first | exact HB.out | apply below_alloc | apply pw_below_drewN | apply below_drew1) | exact HB.out)))); (case aL => have := LMc134.out; omega); intro v214 w135 ho hb hg hat; rw [← Ny213.out] at ho; have n0_ := Aside0.mk (hb); have n1_ := Aside0.mk (ho); clear HB; clear HO_7; have HB := n0_; have HO215 := n1_; clear n0_ n1_; clear ho hb hg hat))
                            go_roundg k2
                            case measure => have := HK1.out; have := HK2.out; omega
                            case rel => exact ⟨(y213), (wrap64 (x9_2 + 1)), (by first | rfl | (simp; done) | (simp [*]; done)), H', ⟨by have := HK1.out; have := HK2.out; omega⟩, ⟨by (with_reducible repeat (first | apply Kd.R_alloc | apply Kd.R_drewN | apply Kd.R_drew)); exact HO215.out⟩, ⟨by repeat (first | (with_reducible first | exact HB.out | apply below_alloc | apply pw_below_drewN | apply below_drew1) | exact HB.out)⟩⟩
                          · rw [if_neg c134] at H
                            exact absurd H (by simp)
                        · rw [if_neg c133] at H
                          have c133b0 : (a1 == 3) = false := beq_eq_false_iff_ne.mpr c133
                          have c133b1 : (a1 != 3) = true := bne_iff_ne.mpr c133
                          have H' := Aside0.mk H
                          clear H
                          go_wp2
                          go_roundg k2
                          case measure => have := HK1.out; have := HK2.out; omega
                          case rel => exact ⟨(x7_2), (wrap64 (x9_2 + 1)), (by first | rfl | (simp; done) | (simp [*]; done)), H', ⟨by have := HK1.out; have := HK2.out; omega⟩, ⟨by (with_reducible repeat (first | apply Kd.R_alloc | apply Kd.R_drewN | apply Kd.R_drew)); exact HO_7.out⟩, ⟨by repeat (first | (with_reducible first | exact HB.out | apply below_alloc | apply pw_below_drewN | apply below_drew1) | exact HB.out)⟩⟩
                · rw [if_neg c102] at H
                  have c102b0 : (x8_1 == a2) = false := beq_eq_false_iff_ne.mpr c102
                  have c102b1 : (x8_1 != a2) = true := bne_iff_ne.mpr c102
                  by_cases c136 : a1 = 0
                  · rw [if_pos c136] at H
                    have c136b0 : (a1 == 0) = true := beq_iff_eq.mpr c136
                    have c136b1 : (a1 != 0) = false := bne_eq_false_iff_eq.mpr c136
                    clear c136
                    by_cases c137 : x9_2 = (wrap64 (x8_1 + 1))
                    · rw [if_pos c137] at H
                      have c137b0 : (x9_2 == (wrap64 (x8_1 + 1))) = true := beq_iff_eq.mpr c137
                      have c137b1 : (x9_2 != (wrap64 (x8_1 + 1))) = false := bne_eq_false_iff_eq.mpr c137
                      clear c137
                      by_cases c138 : x7_2.length < 8796093022208
                      · rw [if_pos c138] at H
                        have LMc138 := Aside0.mk c138
                        clear c138
                        obtain ⟨y216, hy216⟩ : ∃ y_ : List (S64), y_ = (x7_2 ++ [(⟨x8_1, x9_2⟩ : S64)]) := ⟨_, rfl⟩
                        replace H : (spec_neWhole.l1 k2 a0 a1 a2 y216 x8_1 (wrap64 (x9_2 + 1))) = some r := by first | (rw [hy216]; with_reducible exact H) | (have H2_ := (Option.bind_some _ _).symm.trans H; rw [hy216]; with_reducible exact H2_) | (have H2_ := (Option.bind_some _ _).symm.trans H; with_reducible exact H2_) | with_reducible exact H | (rw [hy216]; exact H) | exact H
                        have Ny216 := Aside0.mk hy216
                        clear hy216
                        have H' := Aside0.mk H
                        clear H
                        go_wp2_with (first | ((with_reducible refine gate_builtin (b := .append) (xs := #[.tmp 71, .tmp 75]) rfl ?_); at_builtin; refine Kd.R_append k64 (w0 := w) w.heap.size rfl (.tmp 71) (.tmp 75) 22 64 (.agg #[(.int .i64 0), (.int .i64 0)]) 16 rfl Try.underlying22 info64 rfl (by decide) (by omega) u7 x7_2 (⟨x8_1, x9_2⟩ : S64) [.int .i64 x8_1, .int .i64 x9_2] (fun _ => True) (fun _ => False) rfl rfl ?aP (fun _ hk => hk.elim) ?aF ?aO ?aB ?aS ?aL ?_; (case aP => exact k64_mkM _ _ _ (⟨x8_1, x9_2⟩ : S64)); (case aB => exact (by repeat (first | (with_reducible first | exact HB.out | apply below_alloc | apply pw_below_drewN | apply below_drew1) | exact HB.out))); (case aF => exact (fun _ _ => trivial)); (case aO => exact (by (with_reducible repeat (first | apply Kd.R_alloc | apply Kd.R_drewN | apply Kd.R_drew)); exact HO_7.out)); (case aS => exact (below_size (by repeat (first | (with_reducible first | exact HB.out | apply below_alloc | apply pw_below_drewN | apply below_drew1) | exact HB.out)))); (case aL => have := LMc138.out; omega); intro v217 w139 ho hb hg hat; rw [← Ny216.out] at ho; have n0_ := Aside0.mk (hb); have n1_ := Aside0.mk (ho); clear HB; clear HO_7; have HB := n0_; have HO218 := n1_; clear n0_ n1_; clear ho hb hg hat))
                        go_roundg k2
                        case measure => have := HK1.out; have := HK2.out; omega
                        case rel => exact ⟨(y216), (wrap64 (x9_2 + 1)), (by first | rfl | (simp; done) | (simp [*]; done)), H', ⟨by have := HK1.out; have := HK2.out; omega⟩, ⟨by (with_reducible repeat (first | apply Kd.R_alloc | apply Kd.R_drewN | apply Kd.R_drew)); exact HO218.out⟩, ⟨by repeat (first | (with_reducible first | exact HB.out | apply below_alloc | apply pw_below_drewN | apply below_drew1) | exact HB.out)⟩⟩
                      · rw [if_neg c138] at H
                        exact absurd H (by simp)
                    · rw [if_neg c137] at H
                      have c137b0 : (x9_2 == (wrap64 (x8_1 + 1))) = false := beq_eq_false_iff_ne.mpr c137
                      have c137b1 : (x9_2 != (wrap64 (x8_1 + 1))) = true := bne_iff_ne.mpr c137
                      by_cases c140 : a1 = 1
                      · rw [if_pos c140] at H
                        have c140b0 : (a1 == 1) = true := beq_iff_eq.mpr c140
                        have c140b1 : (a1 != 1) = false := bne_eq_false_iff_eq.mpr c140
                        clear c140
                        by_cases c141 : a1 = 2
                        · rw [if_pos c141] at H
                          have c141b0 : (a1 == 2) = true := beq_iff_eq.mpr c141
                          have c141b1 : (a1 != 2) = false := bne_eq_false_iff_eq.mpr c141
                          clear c141
                          by_cases c142 : x9_2 = a2
                          · rw [if_pos c142] at H
                            have c142b0 : (x9_2 == a2) = true := beq_iff_eq.mpr c142
                            have c142b1 : (x9_2 != a2) = false := bne_eq_false_iff_eq.mpr c142
                            clear c142
                            by_cases c143 : x7_2.length < 8796093022208
                            · rw [if_pos c143] at H
                              have LMc143 := Aside0.mk c143
                              clear c143
                              obtain ⟨y219, hy219⟩ : ∃ y_ : List (S64), y_ = (x7_2 ++ [(⟨x8_1, x9_2⟩ : S64)]) := ⟨_, rfl⟩
                              replace H : (spec_neWhole.l1 k2 a0 a1 a2 y219 x8_1 (wrap64 (x9_2 + 1))) = some r := by first | (rw [hy219]; with_reducible exact H) | (have H2_ := (Option.bind_some _ _).symm.trans H; rw [hy219]; with_reducible exact H2_) | (have H2_ := (Option.bind_some _ _).symm.trans H; with_reducible exact H2_) | with_reducible exact H | (rw [hy219]; exact H) | exact H
                              have Ny219 := Aside0.mk hy219
                              clear hy219
                              have H' := Aside0.mk H
                              clear H
                              go_wp2_with (first | ((with_reducible refine gate_builtin (b := .append) (xs := #[.tmp 71, .tmp 75]) rfl ?_); at_builtin; refine Kd.R_append k64 (w0 := w) w.heap.size rfl (.tmp 71) (.tmp 75) 22 64 (.agg #[(.int .i64 0), (.int .i64 0)]) 16 rfl Try.underlying22 info64 rfl (by decide) (by omega) u7 x7_2 (⟨x8_1, x9_2⟩ : S64) [.int .i64 x8_1, .int .i64 x9_2] (fun _ => True) (fun _ => False) rfl rfl ?aP (fun _ hk => hk.elim) ?aF ?aO ?aB ?aS ?aL ?_; (case aP => exact k64_mkM _ _ _ (⟨x8_1, x9_2⟩ : S64)); (case aB => exact (by repeat (first | (with_reducible first | exact HB.out | apply below_alloc | apply pw_below_drewN | apply below_drew1) | exact HB.out))); (case aF => exact (fun _ _ => trivial)); (case aO => exact (by (with_reducible repeat (first | apply Kd.R_alloc | apply Kd.R_drewN | apply Kd.R_drew)); exact HO_7.out)); (case aS => exact (below_size (by repeat (first | (with_reducible first | exact HB.out | apply below_alloc | apply pw_below_drewN | apply below_drew1) | exact HB.out)))); (case aL => have := LMc143.out; omega); intro v220 w144 ho hb hg hat; rw [← Ny219.out] at ho; have n0_ := Aside0.mk (hb); have n1_ := Aside0.mk (ho); clear HB; clear HO_7; have HB := n0_; have HO221 := n1_; clear n0_ n1_; clear ho hb hg hat))
                              go_roundg k2
                              case measure => have := HK1.out; have := HK2.out; omega
                              case rel => exact ⟨(y219), (wrap64 (x9_2 + 1)), (by first | rfl | (simp; done) | (simp [*]; done)), H', ⟨by have := HK1.out; have := HK2.out; omega⟩, ⟨by (with_reducible repeat (first | apply Kd.R_alloc | apply Kd.R_drewN | apply Kd.R_drew)); exact HO221.out⟩, ⟨by repeat (first | (with_reducible first | exact HB.out | apply below_alloc | apply pw_below_drewN | apply below_drew1) | exact HB.out)⟩⟩
                            · rw [if_neg c143] at H
                              exact absurd H (by simp)
                          · rw [if_neg c142] at H
                            have c142b0 : (x9_2 == a2) = false := beq_eq_false_iff_ne.mpr c142
                            have c142b1 : (x9_2 != a2) = true := bne_iff_ne.mpr c142
                            by_cases c145 : a1 = 3
                            · rw [if_pos c145] at H
                              have c145b0 : (a1 == 3) = true := beq_iff_eq.mpr c145
                              have c145b1 : (a1 != 3) = false := bne_eq_false_iff_eq.mpr c145
                              clear c145
                              by_cases c146 : x7_2.length < 8796093022208
                              · rw [if_pos c146] at H
                                have LMc146 := Aside0.mk c146
                                clear c146
                                obtain ⟨y222, hy222⟩ : ∃ y_ : List (S64), y_ = (x7_2 ++ [(⟨x8_1, x9_2⟩ : S64)]) := ⟨_, rfl⟩
                                replace H : (spec_neWhole.l1 k2 a0 a1 a2 y222 x8_1 (wrap64 (x9_2 + 1))) = some r := by first | (rw [hy222]; with_reducible exact H) | (have H2_ := (Option.bind_some _ _).symm.trans H; rw [hy222]; with_reducible exact H2_) | (have H2_ := (Option.bind_some _ _).symm.trans H; with_reducible exact H2_) | with_reducible exact H | (rw [hy222]; exact H) | exact H
                                have Ny222 := Aside0.mk hy222
                                clear hy222
                                have H' := Aside0.mk H
                                clear H
                                go_wp2_with (first | ((with_reducible refine gate_builtin (b := .append) (xs := #[.tmp 71, .tmp 75]) rfl ?_); at_builtin; refine Kd.R_append k64 (w0 := w) w.heap.size rfl (.tmp 71) (.tmp 75) 22 64 (.agg #[(.int .i64 0), (.int .i64 0)]) 16 rfl Try.underlying22 info64 rfl (by decide) (by omega) u7 x7_2 (⟨x8_1, x9_2⟩ : S64) [.int .i64 x8_1, .int .i64 x9_2] (fun _ => True) (fun _ => False) rfl rfl ?aP (fun _ hk => hk.elim) ?aF ?aO ?aB ?aS ?aL ?_; (case aP => exact k64_mkM _ _ _ (⟨x8_1, x9_2⟩ : S64)); (case aB => exact (by repeat (first | (with_reducible first | exact HB.out | apply below_alloc | apply pw_below_drewN | apply below_drew1) | exact HB.out))); (case aF => exact (fun _ _ => trivial)); (case aO => exact (by (with_reducible repeat (first | apply Kd.R_alloc | apply Kd.R_drewN | apply Kd.R_drew)); exact HO_7.out)); (case aS => exact (below_size (by repeat (first | (with_reducible first | exact HB.out | apply below_alloc | apply pw_below_drewN | apply below_drew1) | exact HB.out)))); (case aL => have := LMc146.out; omega); intro v223 w147 ho hb hg hat; rw [← Ny222.out] at ho; have n0_ := Aside0.mk (hb); have n1_ := Aside0.mk (ho); clear HB; clear HO_7; have HB := n0_; have HO224 := n1_; clear n0_ n1_; clear ho hb hg hat))
                                go_roundg k2
                                case measure => have := HK1.out; have := HK2.out; omega
                                case rel => exact ⟨(y222), (wrap64 (x9_2 + 1)), (by first | rfl | (simp; done) | (simp [*]; done)), H', ⟨by have := HK1.out; have := HK2.out; omega⟩, ⟨by (with_reducible repeat (first | apply Kd.R_alloc | apply Kd.R_drewN | apply Kd.R_drew)); exact HO224.out⟩, ⟨by repeat (first | (with_reducible first | exact HB.out | apply below_alloc | apply pw_below_drewN | apply below_drew1) | exact HB.out)⟩⟩
                              · rw [if_neg c146] at H
                                exact absurd H (by simp)
                            · rw [if_neg c145] at H
                              have c145b0 : (a1 == 3) = false := beq_eq_false_iff_ne.mpr c145
                              have c145b1 : (a1 != 3) = true := bne_iff_ne.mpr c145
                              have H' := Aside0.mk H
                              clear H
                              go_wp2
                              go_roundg k2
                              case measure => have := HK1.out; have := HK2.out; omega
                              case rel => exact ⟨(x7_2), (wrap64 (x9_2 + 1)), (by first | rfl | (simp; done) | (simp [*]; done)), H', ⟨by have := HK1.out; have := HK2.out; omega⟩, ⟨by (with_reducible repeat (first | apply Kd.R_alloc | apply Kd.R_drewN | apply Kd.R_drew)); exact HO_7.out⟩, ⟨by repeat (first | (with_reducible first | exact HB.out | apply below_alloc | apply pw_below_drewN | apply below_drew1) | exact HB.out)⟩⟩
                        · rw [if_neg c141] at H
                          have c141b0 : (a1 == 2) = false := beq_eq_false_iff_ne.mpr c141
                          have c141b1 : (a1 != 2) = true := bne_iff_ne.mpr c141
                          by_cases c148 : a1 = 3
                          · rw [if_pos c148] at H
                            have c148b0 : (a1 == 3) = true := beq_iff_eq.mpr c148
                            have c148b1 : (a1 != 3) = false := bne_eq_false_iff_eq.mpr c148
                            clear c148
                            by_cases c149 : x7_2.length < 8796093022208
                            · rw [if_pos c149] at H
                              have LMc149 := Aside0.mk c149
                              clear c149
                              obtain ⟨y225, hy225⟩ : ∃ y_ : List (S64), y_ = (x7_2 ++ [(⟨x8_1, x9_2⟩ : S64)]) := ⟨_, rfl⟩
                              replace H : (spec_neWhole.l1 k2 a0 a1 a2 y225 x8_1 (wrap64 (x9_2 + 1))) = some r := by first | (rw [hy225]; with_reducible exact H) | (have H2_ := (Option.bind_some _ _).symm.trans H; rw [hy225]; with_reducible exact H2_) | (have H2_ := (Option.bind_some _ _).symm.trans H; with_reducible exact H2_) | with_reducible exact H | (rw [hy225]; exact H) | exact H
                              have Ny225 := Aside0.mk hy225
                              clear hy225
                              have H' := Aside0.mk H
                              clear H
                              go_wp2_with (first | ((with_reducible refine gate_builtin (b := .append) (xs := #[.tmp 71, .tmp 75]) rfl ?_); at_builtin; refine Kd.R_append k64 (w0 := w) w.heap.size rfl (.tmp 71) (.tmp 75) 22 64 (.agg #[(.int .i64 0), (.int .i64 0)]) 16 rfl Try.underlying22 info64 rfl (by decide) (by omega) u7 x7_2 (⟨x8_1, x9_2⟩ : S64) [.int .i64 x8_1, .int .i64 x9_2] (fun _ => True) (fun _ => False) rfl rfl ?aP (fun _ hk => hk.elim) ?aF ?aO ?aB ?aS ?aL ?_; (case aP => exact k64_mkM _ _ _ (⟨x8_1, x9_2⟩ : S64)); (case aB => exact (by repeat (first | (with_reducible first | exact HB.out | apply below_alloc | apply pw_below_drewN | apply below_drew1) | exact HB.out))); (case aF => exact (fun _ _ => trivial)); (case aO => exact (by (with_reducible repeat (first | apply Kd.R_alloc | apply Kd.R_drewN | apply Kd.R_drew)); exact HO_7.out)); (case aS => exact (below_size (by repeat (first | (with_reducible first | exact HB.out | apply below_alloc | apply pw_below_drewN | apply below_drew1) | exact HB.out)))); (case aL => have := LMc149.out; omega); intro v226 w150 ho hb hg hat; rw [← Ny225.out] at ho; have n0_ := Aside0.mk (hb); have n1_ := Aside0.mk (ho); clear HB; clear HO_7; have HB := n0_; have HO227 := n1_; clear n0_ n1_; clear ho hb hg hat))
                              go_roundg k2
                              case measure => have := HK1.out; have := HK2.out; omega
                              case rel => exact ⟨(y225), (wrap64 (x9_2 + 1)), (by first | rfl | (simp; done) | (simp [*]; done)), H', ⟨by have := HK1.out; have := HK2.out; omega⟩, ⟨by (with_reducible repeat (first | apply Kd.R_alloc | apply Kd.R_drewN | apply Kd.R_drew)); exact HO227.out⟩, ⟨by repeat (first | (with_reducible first | exact HB.out | apply below_alloc | apply pw_below_drewN | apply below_drew1) | exact HB.out)⟩⟩
                            · rw [if_neg c149] at H
                              exact absurd H (by simp)
                          · rw [if_neg c148] at H
                            have c148b0 : (a1 == 3) = false := beq_eq_false_iff_ne.mpr c148
                            have c148b1 : (a1 != 3) = true := bne_iff_ne.mpr c148
                            have H' := Aside0.mk H
                            clear H
                            go_wp2
                            go_roundg k2
                            case measure => have := HK1.out; have := HK2.out; omega
                            case rel => exact ⟨(x7_2), (wrap64 (x9_2 + 1)), (by first | rfl | (simp; done) | (simp [*]; done)), H', ⟨by have := HK1.out; have := HK2.out; omega⟩, ⟨by (with_reducible repeat (first | apply Kd.R_alloc | apply Kd.R_drewN | apply Kd.R_drew)); exact HO_7.out⟩, ⟨by repeat (first | (with_reducible first | exact HB.out | apply below_alloc | apply pw_below_drewN | apply below_drew1) | exact HB.out)⟩⟩
                      · rw [if_neg c140] at H
                        have c140b0 : (a1 == 1) = false := beq_eq_false_iff_ne.mpr c140
                        have c140b1 : (a1 != 1) = true := bne_iff_ne.mpr c140
                        by_cases c151 : a1 = 2
                        · rw [if_pos c151] at H
                          have c151b0 : (a1 == 2) = true := beq_iff_eq.mpr c151
                          have c151b1 : (a1 != 2) = false := bne_eq_false_iff_eq.mpr c151
                          clear c151
                          by_cases c152 : x9_2 = a2
                          · rw [if_pos c152] at H
                            have c152b0 : (x9_2 == a2) = true := beq_iff_eq.mpr c152
                            have c152b1 : (x9_2 != a2) = false := bne_eq_false_iff_eq.mpr c152
                            clear c152
                            by_cases c153 : x7_2.length < 8796093022208
                            · rw [if_pos c153] at H
                              have LMc153 := Aside0.mk c153
                              clear c153
                              obtain ⟨y228, hy228⟩ : ∃ y_ : List (S64), y_ = (x7_2 ++ [(⟨x8_1, x9_2⟩ : S64)]) := ⟨_, rfl⟩
                              replace H : (spec_neWhole.l1 k2 a0 a1 a2 y228 x8_1 (wrap64 (x9_2 + 1))) = some r := by first | (rw [hy228]; with_reducible exact H) | (have H2_ := (Option.bind_some _ _).symm.trans H; rw [hy228]; with_reducible exact H2_) | (have H2_ := (Option.bind_some _ _).symm.trans H; with_reducible exact H2_) | with_reducible exact H | (rw [hy228]; exact H) | exact H
                              have Ny228 := Aside0.mk hy228
                              clear hy228
                              have H' := Aside0.mk H
                              clear H
                              go_wp2_with (first | ((with_reducible refine gate_builtin (b := .append) (xs := #[.tmp 71, .tmp 75]) rfl ?_); at_builtin; refine Kd.R_append k64 (w0 := w) w.heap.size rfl (.tmp 71) (.tmp 75) 22 64 (.agg #[(.int .i64 0), (.int .i64 0)]) 16 rfl Try.underlying22 info64 rfl (by decide) (by omega) u7 x7_2 (⟨x8_1, x9_2⟩ : S64) [.int .i64 x8_1, .int .i64 x9_2] (fun _ => True) (fun _ => False) rfl rfl ?aP (fun _ hk => hk.elim) ?aF ?aO ?aB ?aS ?aL ?_; (case aP => exact k64_mkM _ _ _ (⟨x8_1, x9_2⟩ : S64)); (case aB => exact (by repeat (first | (with_reducible first | exact HB.out | apply below_alloc | apply pw_below_drewN | apply below_drew1) | exact HB.out))); (case aF => exact (fun _ _ => trivial)); (case aO => exact (by (with_reducible repeat (first | apply Kd.R_alloc | apply Kd.R_drewN | apply Kd.R_drew)); exact HO_7.out)); (case aS => exact (below_size (by repeat (first | (with_reducible first | exact HB.out | apply below_alloc | apply pw_below_drewN | apply below_drew1) | exact HB.out)))); (case aL => have := LMc153.out; omega); intro v229 w154 ho hb hg hat; rw [← Ny228.out] at ho; have n0_ := Aside0.mk (hb); have n1_ := Aside0.mk (ho); clear HB; clear HO_7; have HB := n0_; have HO230 := n1_; clear n0_ n1_; clear ho hb hg hat))
                              go_roundg k2
                              case measure => have := HK1.out; have := HK2.out; omega
                              case rel => exact ⟨(y228), (wrap64 (x9_2 + 1)), (by first | rfl | (simp; done) | (simp [*]; done)), H', ⟨by have := HK1.out; have := HK2.out; omega⟩, ⟨by (with_reducible repeat (first | apply Kd.R_alloc | apply Kd.R_drewN | apply Kd.R_drew)); exact HO230.out⟩, ⟨by repeat (first | (with_reducible first | exact HB.out | apply below_alloc | apply pw_below_drewN | apply below_drew1) | exact HB.out)⟩⟩
                            · rw [if_neg c153] at H
                              exact absurd H (by simp)
                          · rw [if_neg c152] at H
                            have c152b0 : (x9_2 == a2) = false := beq_eq_false_iff_ne.mpr c152
                            have c152b1 : (x9_2 != a2) = true := bne_iff_ne.mpr c152
                            by_cases c155 : a1 = 3
                            · rw [if_pos c155] at H
                              have c155b0 : (a1 == 3) = true := beq_iff_eq.mpr c155
                              have c155b1 : (a1 != 3) = false := bne_eq_false_iff_eq.mpr c155
                              clear c155
                              by_cases c156 : x7_2.length < 8796093022208
                              · rw [if_pos c156] at H
                                have LMc156 := Aside0.mk c156
                                clear c156
                                obtain ⟨y231, hy231⟩ : ∃ y_ : List (S64), y_ = (x7_2 ++ [(⟨x8_1, x9_2⟩ : S64)]) := ⟨_, rfl⟩
                                replace H : (spec_neWhole.l1 k2 a0 a1 a2 y231 x8_1 (wrap64 (x9_2 + 1))) = some r := by first | (rw [hy231]; with_reducible exact H) | (have H2_ := (Option.bind_some _ _).symm.trans H; rw [hy231]; with_reducible exact H2_) | (have H2_ := (Option.bind_some _ _).symm.trans H; with_reducible exact H2_) | with_reducible exact H | (rw [hy231]; exact H) | exact H
                                have Ny231 := Aside0.mk hy231
                                clear hy231
                                have H' := Aside0.mk H
                                clear H
                                go_wp2_with (first | ((with_reducible refine gate_builtin (b := .append) (xs := #[.tmp 71, .tmp 75]) rfl ?_); at_builtin; refine Kd.R_append k64 (w0 := w) w.heap.size rfl (.tmp 71) (.tmp 75) 22 64 (.agg #[(.int .i64 0), (.int .i64 0)]) 16 rfl Try.underlying22 info64 rfl (by decide) (by omega) u7 x7_2 (⟨x8_1, x9_2⟩ : S64) [.int .i64 x8_1, .int .i64 x9_2] (fun _ => True) (fun _ => False) rfl rfl ?aP (fun _ hk => hk.elim) ?aF ?aO ?aB ?aS ?aL ?_; (case aP => exact k64_mkM _ _ _ (⟨x8_1, x9_2⟩ : S64)); (case aB => exact (by repeat (first | (with_reducible first | exact HB.out | apply below_alloc | apply pw_below_drewN | apply below_drew1) | exact HB.out))); (case aF => exact (fun _ _ => trivial)); (case aO => exact (by (with_reducible repeat (first | apply Kd.R_alloc | apply Kd.R_drewN | apply Kd.R_drew)); exact HO_7.out)); (case aS => exact (below_size (by repeat (first | (with_reducible first | exact HB.out | apply below_alloc | apply pw_below_drewN | apply below_drew1) | exact HB.out)))); (case aL => have := LMc156.out; omega); intro v232 w157 ho hb hg hat; rw [← Ny231.out] at ho; have n0_ := Aside0.mk (hb); have n1_ := Aside0.mk (ho); clear HB; clear HO_7; have HB := n0_; have HO233 := n1_; clear n0_ n1_; clear ho hb hg hat))
                                go_roundg k2
                                case measure => have := HK1.out; have := HK2.out; omega
                                case rel => exact ⟨(y231), (wrap64 (x9_2 + 1)), (by first | rfl | (simp; done) | (simp [*]; done)), H', ⟨by have := HK1.out; have := HK2.out; omega⟩, ⟨by (with_reducible repeat (first | apply Kd.R_alloc | apply Kd.R_drewN | apply Kd.R_drew)); exact HO233.out⟩, ⟨by repeat (first | (with_reducible first | exact HB.out | apply below_alloc | apply pw_below_drewN | apply below_drew1) | exact HB.out)⟩⟩
                              · rw [if_neg c156] at H
                                exact absurd H (by simp)
                            · rw [if_neg c155] at H
                              have c155b0 : (a1 == 3) = false := beq_eq_false_iff_ne.mpr c155
                              have c155b1 : (a1 != 3) = true := bne_iff_ne.mpr c155
                              have H' := Aside0.mk H
                              clear H
                              go_wp2
                              go_roundg k2
                              case measure => have := HK1.out; have := HK2.out; omega
                              case rel => exact ⟨(x7_2), (wrap64 (x9_2 + 1)), (by first | rfl | (simp; done) | (simp [*]; done)), H', ⟨by have := HK1.out; have := HK2.out; omega⟩, ⟨by (with_reducible repeat (first | apply Kd.R_alloc | apply Kd.R_drewN | apply Kd.R_drew)); exact HO_7.out⟩, ⟨by repeat (first | (with_reducible first | exact HB.out | apply below_alloc | apply pw_below_drewN | apply below_drew1) | exact HB.out)⟩⟩
                        · rw [if_neg c151] at H
                          have c151b0 : (a1 == 2) = false := beq_eq_false_iff_ne.mpr c151
                          have c151b1 : (a1 != 2) = true := bne_iff_ne.mpr c151
                          by_cases c158 : a1 = 3
                          · rw [if_pos c158] at H
                            have c158b0 : (a1 == 3) = true := beq_iff_eq.mpr c158
                            have c158b1 : (a1 != 3) = false := bne_eq_false_iff_eq.mpr c158
                            clear c158
                            by_cases c159 : x7_2.length < 8796093022208
                            · rw [if_pos c159] at H
                              have LMc159 := Aside0.mk c159
                              clear c159
                              obtain ⟨y234, hy234⟩ : ∃ y_ : List (S64), y_ = (x7_2 ++ [(⟨x8_1, x9_2⟩ : S64)]) := ⟨_, rfl⟩
                              replace H : (spec_neWhole.l1 k2 a0 a1 a2 y234 x8_1 (wrap64 (x9_2 + 1))) = some r := by first | (rw [hy234]; with_reducible exact H) | (have H2_ := (Option.bind_some _ _).symm.trans H; rw [hy234]; with_reducible exact H2_) | (have H2_ := (Option.bind_some _ _).symm.trans H; with_reducible exact H2_) | with_reducible exact H | (rw [hy234]; exact H) | exact H
                              have Ny234 := Aside0.mk hy234
                              clear hy234
                              have H' := Aside0.mk H
                              clear H
                              go_wp2_with (first | ((with_reducible refine gate_builtin (b := .append) (xs := #[.tmp 71, .tmp 75]) rfl ?_); at_builtin; refine Kd.R_append k64 (w0 := w) w.heap.size rfl (.tmp 71) (.tmp 75) 22 64 (.agg #[(.int .i64 0), (.int .i64 0)]) 16 rfl Try.underlying22 info64 rfl (by decide) (by omega) u7 x7_2 (⟨x8_1, x9_2⟩ : S64) [.int .i64 x8_1, .int .i64 x9_2] (fun _ => True) (fun _ => False) rfl rfl ?aP (fun _ hk => hk.elim) ?aF ?aO ?aB ?aS ?aL ?_; (case aP => exact k64_mkM _ _ _ (⟨x8_1, x9_2⟩ : S64)); (case aB => exact (by repeat (first | (with_reducible first | exact HB.out | apply below_alloc | apply pw_below_drewN | apply below_drew1) | exact HB.out))); (case aF => exact (fun _ _ => trivial)); (case aO => exact (by (with_reducible repeat (first | apply Kd.R_alloc | apply Kd.R_drewN | apply Kd.R_drew)); exact HO_7.out)); (case aS => exact (below_size (by repeat (first | (with_reducible first | exact HB.out | apply below_alloc | apply pw_below_drewN | apply below_drew1) | exact HB.out)))); (case aL => have := LMc159.out; omega); intro v235 w160 ho hb hg hat; rw [← Ny234.out] at ho; have n0_ := Aside0.mk (hb); have n1_ := Aside0.mk (ho); clear HB; clear HO_7; have HB := n0_; have HO236 := n1_; clear n0_ n1_; clear ho hb hg hat))
                              go_roundg k2
                              case measure => have := HK1.out; have := HK2.out; omega
                              case rel => exact ⟨(y234), (wrap64 (x9_2 + 1)), (by first | rfl | (simp; done) | (simp [*]; done)), H', ⟨by have := HK1.out; have := HK2.out; omega⟩, ⟨by (with_reducible repeat (first | apply Kd.R_alloc | apply Kd.R_drewN | apply Kd.R_drew)); exact HO236.out⟩, ⟨by repeat (first | (with_reducible first | exact HB.out | apply below_alloc | apply pw_below_drewN | apply below_drew1) | exact HB.out)⟩⟩
                            · rw [if_neg c159] at H
                              exact absurd H (by simp)
                          · rw [if_neg c158] at H
                            have c158b0 : (a1 == 3) = false := beq_eq_false_iff_ne.mpr c158
                            have c158b1 : (a1 != 3) = true := bne_iff_ne.mpr c158
                            have H' := Aside0.mk H
                            clear H
                            go_wp2
                            go_roundg k2
                            case measure => have := HK1.out; have := HK2.out; omega
                            case rel => exact ⟨(x7_2), (wrap64 (x9_2 + 1)), (by first | rfl | (simp; done) | (simp [*]; done)), H', ⟨by have := HK1.out; have := HK2.out; omega⟩, ⟨by (with_reducible repeat (first | apply Kd.R_alloc | apply Kd.R_drewN | apply Kd.R_drew)); exact HO_7.out⟩, ⟨by repeat (first | (with_reducible first | exact HB.out | apply below_alloc | apply pw_below_drewN | apply below_drew1) | exact HB.out)⟩⟩
                  · rw [if_neg c136] at H
                    have c136b0 : (a1 == 0) = false := beq_eq_false_iff_ne.mpr c136
                    have c136b1 : (a1 != 0) = true := bne_iff_ne.mpr c136
                    by_cases c161 : a1 = 1
                    · rw [if_pos c161] at H
                      have c161b0 : (a1 == 1) = true := beq_iff_eq.mpr c161
                      have c161b1 : (a1 != 1) = false := bne_eq_false_iff_eq.mpr c161
                      clear c161
                      by_cases c162 : x9_2 = (wrap64 (x8_1 + 1))
                      · rw [if_pos c162] at H
                        have c162b0 : (x9_2 == (wrap64 (x8_1 + 1))) = true := beq_iff_eq.mpr c162
                        have c162b1 : (x9_2 != (wrap64 (x8_1 + 1))) = false := bne_eq_false_iff_eq.mpr c162
                        clear c162
                        by_cases c163 : x7_2.length < 8796093022208
                        · rw [if_pos c163] at H
                          have LMc163 := Aside0.mk c163
                          clear c163
                          obtain ⟨y237, hy237⟩ : ∃ y_ : List (S64), y_ = (x7_2 ++ [(⟨x8_1, x9_2⟩ : S64)]) := ⟨_, rfl⟩
                          replace H : (spec_neWhole.l1 k2 a0 a1 a2 y237 x8_1 (wrap64 (x9_2 + 1))) = some r := by first | (rw [hy237]; with_reducible exact H) | (have H2_ := (Option.bind_some _ _).symm.trans H; rw [hy237]; with_reducible exact H2_) | (have H2_ := (Option.bind_some _ _).symm.trans H; with_reducible exact H2_) | with_reducible exact H | (rw [hy237]; exact H) | exact H
                          have Ny237 := Aside0.mk hy237
                          clear hy237
                          have H' := Aside0.mk H
                          clear H
                          go_wp2_with (first | ((with_reducible refine gate_builtin (b := .append) (xs := #[.tmp 71, .tmp 75]) rfl ?_); at_builtin; refine Kd.R_append k64 (w0 := w) w.heap.size rfl (.tmp 71) (.tmp 75) 22 64 (.agg #[(.int .i64 0), (.int .i64 0)]) 16 rfl Try.underlying22 info64 rfl (by decide) (by omega) u7 x7_2 (⟨x8_1, x9_2⟩ : S64) [.int .i64 x8_1, .int .i64 x9_2] (fun _ => True) (fun _ => False) rfl rfl ?aP (fun _ hk => hk.elim) ?aF ?aO ?aB ?aS ?aL ?_; (case aP => exact k64_mkM _ _ _ (⟨x8_1, x9_2⟩ : S64)); (case aB => exact (by repeat (first | (with_reducible first | exact HB.out | apply below_alloc | apply pw_below_drewN | apply below_drew1) | exact HB.out))); (case aF => exact (fun _ _ => trivial)); (case aO => exact (by (with_reducible repeat (first | apply Kd.R_alloc | apply Kd.R_drewN | apply Kd.R_drew)); exact HO_7.out)); (case aS => exact (below_size (by repeat (first | (with_reducible first | exact HB.out | apply below_alloc | apply pw_below_drewN | apply below_drew1) | exact HB.out)))); (case aL => have := LMc163.out; omega); intro v238 w164 ho hb hg hat; rw [← Ny237.out] at ho; have n0_ := Aside0.mk (hb); have n1_ := Aside0.mk (ho); clear HB; clear HO_7; have HB := n0_; have HO239 := n1_; clear n0_ n1_; clear ho hb hg hat))
                          go_roundg k2
                          case measure => have := HK1.out; have := HK2.out; omega
                          case rel => exact ⟨(y237), (wrap64 (x9_2 + 1)), (by first | rfl | (simp; done) | (simp [*]; done)), H', ⟨by have := HK1.out; have := HK2.out; omega⟩, ⟨by (with_reducible repeat (first | apply Kd.R_alloc | apply Kd.R_drewN | apply Kd.R_drew)); exact HO239.out⟩, ⟨by repeat (first | (with_reducible first | exact HB.out | apply below_alloc | apply pw_below_drewN | apply below_drew1) | exact HB.out)⟩⟩
                        · rw [if_neg c163] at H
                          exact absurd H (by simp)
                      · rw [if_neg c162] at H
                        have c162b0 : (x9_2 == (wrap64 (x8_1 + 1))) = false := beq_eq_false_iff_ne.mpr c162
                        have c162b1 : (x9_2 != (wrap64 (x8_1 + 1))) = true := bne_iff_ne.mpr c162
                        by_cases c165 : a1 = 2
                        · rw [if_pos c165] at H
                          have c165b0 : (a1 == 2) = true := beq_iff_eq.mpr c165
                          have c165b1 : (a1 != 2) = false := bne_eq_false_iff_eq.mpr c165
                          clear c165
                          by_cases c166 : x9_2 = a2
                          · rw [if_pos c166] at H
                            have c166b0 : (x9_2 == a2) = true := beq_iff_eq.mpr c166
                            have c166b1 : (x9_2 != a2) = false := bne_eq_false_iff_eq.mpr c166
                            clear c166
                            by_cases c167 : x7_2.length < 8796093022208
                            · rw [if_pos c167] at H
                              have LMc167 := Aside0.mk c167
                              clear c167
                              obtain ⟨y240, hy240⟩ : ∃ y_ : List (S64), y_ = (x7_2 ++ [(⟨x8_1, x9_2⟩ : S64)]) := ⟨_, rfl⟩
                              replace H : (spec_neWhole.l1 k2 a0 a1 a2 y240 x8_1 (wrap64 (x9_2 + 1))) = some r := by first | (rw [hy240]; with_reducible exact H) | (have H2_ := (Option.bind_some _ _).symm.trans H; rw [hy240]; with_reducible exact H2_) | (have H2_ := (Option.bind_some _ _).symm.trans H; with_reducible exact H2_) | with_reducible exact H | (rw [hy240]; exact H) | exact H
                              have Ny240 := Aside0.mk hy240
                              clear hy240
                              have H' := Aside0.mk H
                              clear H
                              go_wp2_with (first | ((with_reducible refine gate_builtin (b := .append) (xs := #[.tmp 71, .tmp 75]) rfl ?_); at_builtin; refine Kd.R_append k64 (w0 := w) w.heap.size rfl (.tmp 71) (.tmp 75) 22 64 (.agg #[(.int .i64 0), (.int .i64 0)]) 16 rfl Try.underlying22 info64 rfl (by decide) (by omega) u7 x7_2 (⟨x8_1, x9_2⟩ : S64) [.int .i64 x8_1, .int .i64 x9_2] (fun _ => True) (fun _ => False) rfl rfl ?aP (fun _ hk => hk.elim) ?aF ?aO ?aB ?aS ?aL ?_; (case aP => exact k64_mkM _ _ _ (⟨x8_1, x9_2⟩ : S64)); (case aB => exact (by repeat (first | (with_reducible first | exact HB.out | apply below_alloc | apply pw_below_drewN | apply below_drew1) | exact HB.out))); (case aF => exact (fun _ _ => trivial)); (case aO => exact (by (with_reducible repeat (first | apply Kd.R_alloc | apply Kd.R_drewN | apply Kd.R_drew)); exact HO_7.out)); (case aS => exact (below_size (by repeat (first | (with_reducible first | exact HB.out | apply below_alloc | apply pw_below_drewN | apply below_drew1) | exact HB.out)))); (case aL => have := LMc167.out; omega); intro v241 w168 ho hb hg hat; rw [← Ny240.out] at ho; have n0_ := Aside0.mk (hb); have n1_ := Aside0.mk (ho); clear HB; clear HO_7; have HB := n0_; have HO242 := n1_; clear n0_ n1_; clear ho hb hg hat))
                              go_roundg k2
                              case measure => have := HK1.out; have := HK2.out; omega
                              case rel => exact ⟨(y240), (wrap64 (x9_2 + 1)), (by first | rfl | (simp; done) | (simp [*]; done)), H', ⟨by have := HK1.out; have := HK2.out; omega⟩, ⟨by (with_reducible repeat (first | apply Kd.R_alloc | apply Kd.R_drewN | apply Kd.R_drew)); exact HO242.out⟩, ⟨by repeat (first | (with_reducible first | exact HB.out | apply below_alloc | apply pw_below_drewN | apply below_drew1) | exact HB.out)⟩⟩
                            · rw [if_neg c167] at H
                              exact absurd H (by simp)
                          · rw [if_neg c166] at H
                            have c166b0 : (x9_2 == a2) = false := beq_eq_false_iff_ne.mpr c166
                            have c166b1 : (x9_2 != a2) = true := bne_iff_ne.mpr c166
                            by_cases c169 : a1 = 3
                            · rw [if_pos c169] at H
                              have c169b0 : (a1 == 3) = true := beq_iff_eq.mpr c169
                              have c169b1 : (a1 != 3) = false := bne_eq_false_iff_eq.mpr c169
                              clear c169
                              by_cases c170 : x7_2.length < 8796093022208
                              · rw [if_pos c170] at H
                                have LMc170 := Aside0.mk c170
                                clear c170
                                obtain ⟨y243, hy243⟩ : ∃ y_ : List (S64), y_ = (x7_2 ++ [(⟨x8_1, x9_2⟩ : S64)]) := ⟨_, rfl⟩
                                replace H : (spec_neWhole.l1 k2 a0 a1 a2 y243 x8_1 (wrap64 (x9_2 + 1))) = some r := by first | (rw [hy243]; with_reducible exact H) | (have H2_ := (Option.bind_some _ _).symm.trans H; rw [hy243]; with_reducible exact H2_) | (have H2_ := (Option.bind_some _ _).symm.trans H; with_reducible exact H2_) | with_reducible exact H | (rw [hy243]; exact H) | exact H
                                have Ny243 := Aside0.mk hy243
                                clear hy243
                                have H' := Aside0.mk H
                                clear H
                                go_wp2_with (first | ((with_reducible refine gate_builtin (b := .append) (xs := #[.tmp 71, .tmp 75]) rfl ?_); at_builtin; refine Kd.R_append k64 (w0 := w) w.heap.size rfl (.tmp 71) (.tmp 75) 22 64 (.agg #[(.int .i64 0), (.int .i64 0)]) 16 rfl Try.underlying22 info64 rfl (by decide) (by omega) u7 x7_2 (⟨x8_1, x9_2⟩ : S64) [.int .i64 x8_1, .int .i64 x9_2] (fun _ => True) (fun _ => False) rfl rfl ?aP (fun _ hk => hk.elim) ?aF ?aO ?aB ?aS ?aL ?_; (case aP => exact k64_mkM _ _ _ (⟨x8_1, x9_2⟩ : S64)); (case aB => exact (by repeat (first | (with_reducible first | exact HB.out | apply below_alloc | apply pw_below_drewN | apply below_drew1) | exact HB.out))); (case aF => exact (fun _ _ => trivial)); (case aO => exact (by (with_reducible repeat (first | apply Kd.R_alloc | apply Kd.R_drewN | apply Kd.R_drew)); exact HO_7.out)); (case aS => exact (below_size (by repeat (first | (with_reducible first | exact HB.out | apply below_alloc | apply pw_below_drewN | apply below_drew1) | exact HB.out)))); (case aL => have := LMc170.out; omega); intro v244 w171 ho hb hg hat; rw [← Ny243.out] at ho; have n0_ := Aside0.mk (hb); have n1_ := Aside0.mk (ho); clear HB; clear HO_7; have HB := n0_; have HO245 := n1_; clear n0_ n1_; clear ho hb hg hat))
                                go_roundg k2
                                case measure => have := HK1.out; have := HK2.out; omega
                                case rel => exact ⟨(y243), (wrap64 (x9_2 + 1)), (by first | rfl | (simp; done) | (simp [*]; done)), H', ⟨by have := HK1.out; have := HK2.out; omega⟩, ⟨by (with_reducible repeat (first | apply Kd.R_alloc | apply Kd.R_drewN | apply Kd.R_drew)); exact HO245.out⟩, ⟨by repeat (first | (with_reducible first | exact HB.out | apply below_alloc | apply pw_below_drewN | apply below_drew1) | exact HB.out)⟩⟩
                              · rw [if_neg c170] at H
                                exact absurd H (by simp)
                            · rw [if_neg c169] at H
                              have c169b0 : (a1 == 3) = false := beq_eq_false_iff_ne.mpr c169
                              have c169b1 : (a1 != 3) = true := bne_iff_ne.mpr c169
                              have H' := Aside0.mk H
                              clear H
                              go_wp2
                              go_roundg k2
                              case measure => have := HK1.out; have := HK2.out; omega
                              case rel => exact ⟨(x7_2), (wrap64 (x9_2 + 1)), (by first | rfl | (simp; done) | (simp [*]; done)), H', ⟨by have := HK1.out; have := HK2.out; omega⟩, ⟨by (with_reducible repeat (first | apply Kd.R_alloc | apply Kd.R_drewN | apply Kd.R_drew)); exact HO_7.out⟩, ⟨by repeat (first | (with_reducible first | exact HB.out | apply below_alloc | apply pw_below_drewN | apply below_drew1) | exact HB.out)⟩⟩
                        · rw [if_neg c165] at H
                          have c165b0 : (a1 == 2) = false := beq_eq_false_iff_ne.mpr c165
                          have c165b1 : (a1 != 2) = true := bne_iff_ne.mpr c165
                          by_cases c172 : a1 = 3
                          · rw [if_pos c172] at H
                            have c172b0 : (a1 == 3) = true := beq_iff_eq.mpr c172
                            have c172b1 : (a1 != 3) = false := bne_eq_false_iff_eq.mpr c172
                            clear c172
                            by_cases c173 : x7_2.length < 8796093022208
                            · rw [if_pos c173] at H
                              have LMc173 := Aside0.mk c173
                              clear c173
                              obtain ⟨y246, hy246⟩ : ∃ y_ : List (S64), y_ = (x7_2 ++ [(⟨x8_1, x9_2⟩ : S64)]) := ⟨_, rfl⟩
                              replace H : (spec_neWhole.l1 k2 a0 a1 a2 y246 x8_1 (wrap64 (x9_2 + 1))) = some r := by first | (rw [hy246]; with_reducible exact H) | (have H2_ := (Option.bind_some _ _).symm.trans H; rw [hy246]; with_reducible exact H2_) | (have H2_ := (Option.bind_some _ _).symm.trans H; with_reducible exact H2_) | with_reducible exact H | (rw [hy246]; exact H) | exact H
                              have Ny246 := Aside0.mk hy246
                              clear hy246
                              have H' := Aside0.mk H
                              clear H
                              go_wp2_with (first | ((with_reducible refine gate_builtin (b := .append) (xs := #[.tmp 71, .tmp 75]) rfl ?_); at_builtin; refine Kd.R_append k64 (w0 := w) w.heap.size rfl (.tmp 71) (.tmp 75) 22 64 (.agg #[(.int .i64 0), (.int .i64 0)]) 16 rfl Try.underlying22 info64 rfl (by decide) (by omega) u7 x7_2 (⟨x8_1, x9_2⟩ : S64) [.int .i64 x8_1, .int .i64 x9_2] (fun _ => True) (fun _ => False) rfl rfl ?aP (fun _ hk => hk.elim) ?aF ?aO ?aB ?aS ?aL ?_; (case aP => exact k64_mkM _ _ _ (⟨x8_1, x9_2⟩ : S64)); (case aB => exact (by repeat (first | (with_reducible first | exact HB.out | apply below_alloc | apply pw_below_drewN | apply below_drew1) | exact HB.out))); (case aF => exact (fun _ _ => trivial)); (case aO => exact (by (with_reducible repeat (first | apply Kd.R_alloc | apply Kd.R_drewN | apply Kd.R_drew)); exact HO_7.out)); (case aS => exact (below_size (by repeat (first | (with_reducible first | exact HB.out | apply below_alloc | apply pw_below_drewN | apply below_drew1) | exact HB.out)))); (case aL => have := LMc173.out; omega); intro v247 w174 ho hb hg hat; rw [← Ny246.out] at ho; have n0_ := Aside0.mk (hb); have n1_ := Aside0.mk (ho); clear HB; clear HO_7; have HB := n0_; have HO248 := n1_; clear n0_ n1_; clear ho hb hg hat))
                              go_roundg k2
                              case measure => have := HK1.out; have := HK2.out; omega
                              case rel => exact ⟨(y246), (wrap64 (x9_2 + 1)), (by first | rfl | (simp; done) | (simp [*]; done)), H', ⟨by have := HK1.out; have := HK2.out; omega⟩, ⟨by (with_reducible repeat (first | apply Kd.R_alloc | apply Kd.R_drewN | apply Kd.R_drew)); exact HO248.out⟩, ⟨by repeat (first | (with_reducible first | exact HB.out | apply below_alloc | apply pw_below_drewN | apply below_drew1) | exact HB.out)⟩⟩
                            · rw [if_neg c173] at H
                              exact absurd H (by simp)
                          · rw [if_neg c172] at H
                            have c172b0 : (a1 == 3) = false := beq_eq_false_iff_ne.mpr c172
                            have c172b1 : (a1 != 3) = true := bne_iff_ne.mpr c172
                            have H' := Aside0.mk H
                            clear H
                            go_wp2
                            go_roundg k2
                            case measure => have := HK1.out; have := HK2.out; omega
                            case rel => exact ⟨(x7_2), (wrap64 (x9_2 + 1)), (by first | rfl | (simp; done) | (simp [*]; done)), H', ⟨by have := HK1.out; have := HK2.out; omega⟩, ⟨by (with_reducible repeat (first | apply Kd.R_alloc | apply Kd.R_drewN | apply Kd.R_drew)); exact HO_7.out⟩, ⟨by repeat (first | (with_reducible first | exact HB.out | apply below_alloc | apply pw_below_drewN | apply below_drew1) | exact HB.out)⟩⟩
                    · rw [if_neg c161] at H
                      have c161b0 : (a1 == 1) = false := beq_eq_false_iff_ne.mpr c161
                      have c161b1 : (a1 != 1) = true := bne_iff_ne.mpr c161
                      by_cases c175 : a1 = 2
                      · rw [if_pos c175] at H
                        have c175b0 : (a1 == 2) = true := beq_iff_eq.mpr c175
                        have c175b1 : (a1 != 2) = false := bne_eq_false_iff_eq.mpr c175
                        clear c175
                        by_cases c176 : x9_2 = a2
                        · rw [if_pos c176] at H
                          have c176b0 : (x9_2 == a2) = true := beq_iff_eq.mpr c176
                          have c176b1 : (x9_2 != a2) = false := bne_eq_false_iff_eq.mpr c176
                          clear c176
                          by_cases c177 : x7_2.length < 8796093022208
                          · rw [if_pos c177] at H
                            have LMc177 := Aside0.mk c177
                            clear c177
                            obtain ⟨y249, hy249⟩ : ∃ y_ : List (S64), y_ = (x7_2 ++ [(⟨x8_1, x9_2⟩ : S64)]) := ⟨_, rfl⟩
                            replace H : (spec_neWhole.l1 k2 a0 a1 a2 y249 x8_1 (wrap64 (x9_2 + 1))) = some r := by first | (rw [hy249]; with_reducible exact H) | (have H2_ := (Option.bind_some _ _).symm.trans H; rw [hy249]; with_reducible exact H2_) | (have H2_ := (Option.bind_some _ _).symm.trans H; with_reducible exact H2_) | with_reducible exact H | (rw [hy249]; exact H) | exact H
                            have Ny249 := Aside0.mk hy249
                            clear hy249
                            have H' := Aside0.mk H
                            clear H
                            go_wp2_with (first | ((with_reducible refine gate_builtin (b := .append) (xs := #[.tmp 71, .tmp 75]) rfl ?_); at_builtin; refine Kd.R_append k64 (w0 := w) w.heap.size rfl (.tmp 71) (.tmp 75) 22 64 (.agg #[(.int .i64 0), (.int .i64 0)]) 16 rfl Try.underlying22 info64 rfl (by decide) (by omega) u7 x7_2 (⟨x8_1, x9_2⟩ : S64) [.int .i64 x8_1, .int .i64 x9_2] (fun _ => True) (fun _ => False) rfl rfl ?aP (fun _ hk => hk.elim) ?aF ?aO ?aB ?aS ?aL ?_; (case aP => exact k64_mkM _ _ _ (⟨x8_1, x9_2⟩ : S64)); (case aB => exact (by repeat (first | (with_reducible first | exact HB.out | apply below_alloc | apply pw_below_drewN | apply below_drew1) | exact HB.out))); (case aF => exact (fun _ _ => trivial)); (case aO => exact (by (with_reducible repeat (first | apply Kd.R_alloc | apply Kd.R_drewN | apply Kd.R_drew)); exact HO_7.out)); (case aS => exact (below_size (by repeat (first | (with_reducible first | exact HB.out | apply below_alloc | apply pw_below_drewN | apply below_drew1) | exact HB.out)))); (case aL => have := LMc177.out; omega); intro v250 w178 ho hb hg hat; rw [← Ny249.out] at ho; have n0_ := Aside0.mk (hb); have n1_ := Aside0.mk (ho); clear HB; clear HO_7; have HB := n0_; have HO251 := n1_; clear n0_ n1_; clear ho hb hg hat))
                            go_roundg k2
                            case measure => have := HK1.out; have := HK2.out; omega
                            case rel => exact ⟨(y249), (wrap64 (x9_2 + 1)), (by first | rfl | (simp; done) | (simp [*]; done)), H', ⟨by have := HK1.out; have := HK2.out; omega⟩, ⟨by (with_reducible repeat (first | apply Kd.R_alloc | apply Kd.R_drewN | apply Kd.R_drew)); exact HO251.out⟩, ⟨by repeat (first | (with_reducible first | exact HB.out | apply below_alloc | apply pw_below_drewN | apply below_drew1) | exact HB.out)⟩⟩
                          · rw [if_neg c177] at H
                            exact absurd H (by simp)
                        · rw [if_neg c176] at H
                          have c176b0 : (x9_2 == a2) = false := beq_eq_false_iff_ne.mpr c176
                          have c176b1 : (x9_2 != a2) = true := bne_iff_ne.mpr c176
                          by_cases c179 : a1 = 3
                          · rw [if_pos c179] at H
                            have c179b0 : (a1 == 3) = true := beq_iff_eq.mpr c179
                            have c179b1 : (a1 != 3) = false := bne_eq_false_iff_eq.mpr c179
                            clear c179
                            by_cases c180 : x7_2.length < 8796093022208
                            · rw [if_pos c180] at H
                              have LMc180 := Aside0.mk c180
                              clear c180
                              obtain ⟨y252, hy252⟩ : ∃ y_ : List (S64), y_ = (x7_2 ++ [(⟨x8_1, x9_2⟩ : S64)]) := ⟨_, rfl⟩
                              replace H : (spec_neWhole.l1 k2 a0 a1 a2 y252 x8_1 (wrap64 (x9_2 + 1))) = some r := by first | (rw [hy252]; with_reducible exact H) | (have H2_ := (Option.bind_some _ _).symm.trans H; rw [hy252]; with_reducible exact H2_) | (have H2_ := (Option.bind_some _ _).symm.trans H; with_reducible exact H2_) | with_reducible exact H | (rw [hy252]; exact H) | exact H
                              have Ny252 := Aside0.mk hy252
                              clear hy252
                              have H' := Aside0.mk H
                              clear H
                              go_wp2_with (first | ((with_reducible refine gate_builtin (b := .append) (xs := #[.tmp 71, .tmp 75]) rfl ?_); at_builtin; refine Kd.R_append k64 (w0 := w) w.heap.size rfl (.tmp 71) (.tmp 75) 22 64 (.agg #[(.int .i64 0), (.int .i64 0)]) 16 rfl Try.underlying22 info64 rfl (by decide) (by omega) u7 x7_2 (⟨x8_1, x9_2⟩ : S64) [.int .i64 x8_1, .int .i64 x9_2] (fun _ => True) (fun _ => False) rfl rfl ?aP (fun _ hk => hk.elim) ?aF ?aO ?aB ?aS ?aL ?_; (case aP => exact k64_mkM _ _ _ (⟨x8_1, x9_2⟩ : S64)); (case aB => exact (by repeat (first | (with_reducible first | exact HB.out | apply below_alloc | apply pw_below_drewN | apply below_drew1) | exact HB.out))); (case aF => exact (fun _ _ => trivial)); (case aO => exact (by (with_reducible repeat (first | apply Kd.R_alloc | apply Kd.R_drewN | apply Kd.R_drew)); exact HO_7.out)); (case aS => exact (below_size (by repeat (first | (with_reducible first | exact HB.out | apply below_alloc | apply pw_below_drewN | apply below_drew1) | exact HB.out)))); (case aL => have := LMc180.out; omega); intro v253 w181 ho hb hg hat; rw [← Ny252.out] at ho; have n0_ := Aside0.mk (hb); have n1_ := Aside0.mk (ho); clear HB; clear HO_7; have HB := n0_; have HO254 := n1_; clear n0_ n1_; clear ho hb hg hat))
                              go_roundg k2
                              case measure => have := HK1.out; have := HK2.out; omega
                              case rel => exact ⟨(y252), (wrap64 (x9_2 + 1)), (by first | rfl | (simp; done) | (simp [*]; done)), H', ⟨by have := HK1.out; have := HK2.out; omega⟩, ⟨by (with_reducible repeat (first | apply Kd.R_alloc | apply Kd.R_drewN | apply Kd.R_drew)); exact HO254.out⟩, ⟨by repeat (first | (with_reducible first | exact HB.out | apply below_alloc | apply pw_below_drewN | apply below_drew1) | exact HB.out)⟩⟩
                            · rw [if_neg c180] at H
                              exact absurd H (by simp)
                          · rw [if_neg c179] at H
                            have c179b0 : (a1 == 3) = false := beq_eq_false_iff_ne.mpr c179
                            have c179b1 : (a1 != 3) = true := bne_iff_ne.mpr c179
                            have H' := Aside0.mk H
                            clear H
                            go_wp2
                            go_roundg k2
                            case measure => have := HK1.out; have := HK2.out; omega
                            case rel => exact ⟨(x7_2), (wrap64 (x9_2 + 1)), (by first | rfl | (simp; done) | (simp [*]; done)), H', ⟨by have := HK1.out; have := HK2.out; omega⟩, ⟨by (with_reducible repeat (first | apply Kd.R_alloc | apply Kd.R_drewN | apply Kd.R_drew)); exact HO_7.out⟩, ⟨by repeat (first | (with_reducible first | exact HB.out | apply below_alloc | apply pw_below_drewN | apply below_drew1) | exact HB.out)⟩⟩
                      · rw [if_neg c175] at H
                        have c175b0 : (a1 == 2) = false := beq_eq_false_iff_ne.mpr c175
                        have c175b1 : (a1 != 2) = true := bne_iff_ne.mpr c175
                        by_cases c182 : a1 = 3
                        · rw [if_pos c182] at H
                          have c182b0 : (a1 == 3) = true := beq_iff_eq.mpr c182
                          have c182b1 : (a1 != 3) = false := bne_eq_false_iff_eq.mpr c182
                          clear c182
                          by_cases c183 : x7_2.length < 8796093022208
                          · rw [if_pos c183] at H
                            have LMc183 := Aside0.mk c183
                            clear c183
                            obtain ⟨y255, hy255⟩ : ∃ y_ : List (S64), y_ = (x7_2 ++ [(⟨x8_1, x9_2⟩ : S64)]) := ⟨_, rfl⟩
                            replace H : (spec_neWhole.l1 k2 a0 a1 a2 y255 x8_1 (wrap64 (x9_2 + 1))) = some r := by first | (rw [hy255]; with_reducible exact H) | (have H2_ := (Option.bind_some _ _).symm.trans H; rw [hy255]; with_reducible exact H2_) | (have H2_ := (Option.bind_some _ _).symm.trans H; with_reducible exact H2_) | with_reducible exact H | (rw [hy255]; exact H) | exact H
                            have Ny255 := Aside0.mk hy255
                            clear hy255
                            have H' := Aside0.mk H
                            clear H
                            go_wp2_with (first | ((with_reducible refine gate_builtin (b := .append) (xs := #[.tmp 71, .tmp 75]) rfl ?_); at_builtin; refine Kd.R_append k64 (w0 := w) w.heap.size rfl (.tmp 71) (.tmp 75) 22 64 (.agg #[(.int .i64 0), (.int .i64 0)]) 16 rfl Try.underlying22 info64 rfl (by decide) (by omega) u7 x7_2 (⟨x8_1, x9_2⟩ : S64) [.int .i64 x8_1, .int .i64 x9_2] (fun _ => True) (fun _ => False) rfl rfl ?aP (fun _ hk => hk.elim) ?aF ?aO ?aB ?aS ?aL ?_; (case aP => exact k64_mkM _ _ _ (⟨x8_1, x9_2⟩ : S64)); (case aB => exact (by repeat (first | (with_reducible first | exact HB.out | apply below_alloc | apply pw_below_drewN | apply below_drew1) | exact HB.out))); (case aF => exact (fun _ _ => trivial)); (case aO => exact (by (with_reducible repeat (first | apply Kd.R_alloc | apply Kd.R_drewN | apply Kd.R_drew)); exact HO_7.out)); (case aS => exact (below_size (by repeat (first | (with_reducible first | exact HB.out | apply below_alloc | apply pw_below_drewN | apply below_drew1) | exact HB.out)))); (case aL => have := LMc183.out; omega); intro v256 w184 ho hb hg hat; rw [← Ny255.out] at ho; have n0_ := Aside0.mk (hb); have n1_ := Aside0.mk (ho); clear HB; clear HO_7; have HB := n0_; have HO257 := n1_; clear n0_ n1_; clear ho hb hg hat))
                            go_roundg k2
                            case measure => have := HK1.out; have := HK2.out; omega
                            case rel => exact ⟨(y255), (wrap64 (x9_2 + 1)), (by first | rfl | (simp; done) | (simp [*]; done)), H', ⟨by have := HK1.out; have := HK2.out; omega⟩, ⟨by (with_reducible repeat (first | apply Kd.R_alloc | apply Kd.R_drewN | apply Kd.R_drew)); exact HO257.out⟩, ⟨by repeat (first | (with_reducible first | exact HB.out | apply below_alloc | apply pw_below_drewN | apply below_drew1) | exact HB.out)⟩⟩
                          · rw [if_neg c183] at H
                            exact absurd H (by simp)
                        · rw [if_neg c182] at H
                          have c182b0 : (a1 == 3) = false := beq_eq_false_iff_ne.mpr c182
                          have c182b1 : (a1 != 3) = true := bne_iff_ne.mpr c182
                          have H' := Aside0.mk H
                          clear H
                          go_wp2
                          go_roundg k2
                          case measure => have := HK1.out; have := HK2.out; omega
                          case rel => exact ⟨(x7_2), (wrap64 (x9_2 + 1)), (by first | rfl | (simp; done) | (simp [*]; done)), H', ⟨by have := HK1.out; have := HK2.out; omega⟩, ⟨by (with_reducible repeat (first | apply Kd.R_alloc | apply Kd.R_drewN | apply Kd.R_drew)); exact HO_7.out⟩, ⟨by repeat (first | (with_reducible first | exact HB.out | apply below_alloc | apply pw_below_drewN | apply below_drew1) | exact HB.out)⟩⟩
            · rw [if_neg c5] at H
              have c5b0 : decide (x9_2 < a0) = false := decide_eq_false c5
              clear c5
              have H' := Aside0.mk H
              clear H
              go_wp2
              go_roundg k2
              case measure => have := HK1.out; have := HK2.out; omega
              case rel => exact ⟨(x7_2), (wrap64 (x8_1 + 1)), (by first | rfl | (simp; done) | (simp [*]; done)), H', ⟨by have := HK1.out; have := HK2.out; omega⟩, ⟨by (with_reducible repeat (first | apply Kd.R_alloc | apply Kd.R_drewN | apply Kd.R_drew)); exact HO_7.out⟩, ⟨by repeat (first | (with_reducible first | exact HB.out | apply below_alloc | apply pw_below_drewN | apply below_drew1) | exact HB.out)⟩⟩
      · rw [if_neg c4] at H
        have c4b0 : decide (x8_1 < a0) = false := decide_eq_false c4
        clear c4
        obtain rfl := Option.some.inj H
        go_wp2
        go_ret
        exact ⟨_, by first | rfl | (simp [errW_none, errW_some] <;> rfl) | (simp [*, errW_none, errW_some] <;> rfl), by (with_reducible repeat (first | apply Kd.R_alloc | apply Kd.R_drewN | apply Kd.R_drew)); exact HO_7.out, by repeat (first | (with_reducible first | exact HB.out | apply below_alloc | apply pw_below_drewN | apply below_drew1) | exact HB.out)⟩

end Go.Proofs.Ytelhjfalkhmhkaa.PFnExactStarNet
