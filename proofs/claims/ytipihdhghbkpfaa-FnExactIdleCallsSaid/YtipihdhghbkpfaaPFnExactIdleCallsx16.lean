-- Written by the session's mkprint.py over the kit's print.py (function texts marked OURS are the session's own).
import Derived.Test.YtipihdhghbkpfaaPFnExactIdleCallsx0
import Derived.Test.YtipihdhghbkpfaaPFnExactIdleCallsx12
import Derived.Test.YtipihdhghbkpfaaHIndices
import Derived.Test.YtipihdhghbkpfaaPFnExactIdleCallsx15
namespace Go.Proofs.Ytipihdhghbkpfaa.PFnExactIdleCalls
open Go.RowKit Go.Proofs.YtipihdhghbkpfaaW.PrintWords Go.Proofs.YtipihdhghbkpfaaW.PrintLast Go.Proofs.YtipihdhghbkpfaaW.PrintMore
attribute [local go_sem] max2_int min2_int max_two min_two max_three min_three max_four min_four   -- for this text's walks alone
set_option linter.unusedVariables false
set_option linter.unusedSimpArgs false

/-! ### impl_idle: OURS: function 75 -/
def impl_idle.g (k : Nat) (n : Int) (l : List S53) (i : Nat) : Option Bool := (impl_learned.f k n l (i : Int)).bind fun t => some (decide (t = 0))
def impl_idle.f (k : Nat) (a0 : Int) (l1 : List S53) : Option (List Int) := Go.Proofs.Ytipihdhghbkpfaa.H.idxO (impl_idle.g k a0 l1) l1.length
theorem impl_idle.mono : ∀ a0 a1 k, LeO (impl_idle.f k a0 a1) (impl_idle.f (k + 1) a0 a1) := fun a0 a1 k => Go.Proofs.Ytipihdhghbkpfaa.H.idxO_mono (fun i => LeO.bind (impl_learned.mono _ _ _ _) (fun _ => LeO.refl _))
set_option maxHeartbeats 1000000 in
set_option maxRecDepth 100000 in
theorem idle_lit (kq : Nat) (n : Int) (A : Option Addr) (cp : Nat) (l : List S53) (hcp : l.length ≤ cp) (hv : ∀ i, i < l.length → ∃ b, impl_idle.g kq n l i = some b) (g1 g2 : Nat) (w : World) (hC : Kd.C k53 w A l.length l) (hg1 : w.heap[g1]? = some (.cells #[.int .i64 n] 3 (0, 0))) (hg2 : w.heap[g2]? = some (.cells #[.slice A l.length cp] 25 (0, 0))) :
    Go.Proofs.Ytipihdhghbkpfaa.H.PredIdx 95 #[.pointer (some ⟨g1, 0, none⟩), .pointer (some ⟨g2, 0, none⟩)] l.length (fun i => impl_idle.g kq n l i == some true) w := by
  intro W k hb hk
  have h1 : W.cell? ⟨g1, 0, none⟩ = some (.int .i64 n) := Go.Proofs.Ytipihdhghbkpfaa.H.cell_b hb ((blk_cell hg1 0).trans rfl)
  have h2 : W.cell? ⟨g2, 0, none⟩ = some (.slice A l.length cp) := Go.Proofs.Ytipihdhghbkpfaa.H.cell_b hb ((blk_cell hg2 0).trans rfl)
  obtain ⟨b, hbb⟩ := hv k hk
  obtain ⟨r, hr, hbr⟩ := Option.bind_eq_some_iff.1 hbb
  have hcall := impl_learned.calls kq n A cp l (k : Int) r W (Kd.C_below hC hb) hcp hr
  show Calls _ _ #[.int .i64 (k : Int), .pointer (some ⟨g1, 0, none⟩), .pointer (some ⟨g2, 0, none⟩)] W fun e w' => e = .returned (.bool (impl_idle.g kq n l k == some true)) ∧ Below W.heap.size W w'
  rw [hbb, ← Option.some.inj hbr]
  have hq : (some (decide (r = 0)) == some true) = (r == 0) := by by_cases h : r = 0 <;> simp [h]
  rw [hq]
  clear hC hg1 hg2 hb hr hk hv hq hcp hbb hbr
  go_enter Try.func95, Try.ntmps95
  go_wp2_with (go_at_call 74; refine hcall.mono ?_; rintro e w' ⟨rfl, hb'⟩)
  go_ret
  exact ⟨rfl, hb'⟩
set_option maxHeartbeats 1000000 in
set_option maxRecDepth 100000 in
theorem impl_idle.calls (k : Nat) (a0 : Int) (A1 : Option Addr) (c1 : Nat) (l1 : List S53) (r : List Int) (w : World) (hr1 : Kd.C k53 w A1 l1.length l1) (hc1 : l1.length ≤ c1) (h : impl_idle.f k a0 l1 = some r) :
    Calls Try.prog 75 #[.int .i64 a0, .slice A1 l1.length c1] w fun e w' => ∃ v0_ : Value, e = .returned v0_ ∧ Kd.R (Kd.int .i64) 3 w' w.heap.size (fun _ => True) v0_ r ∧ Below w.heap.size w w' := by
  obtain ⟨hl, hv, rfl⟩ := Go.Proofs.Ytipihdhghbkpfaa.H.idxO_inv h
  clear h
  have HR := Aside0.mk hr1
  clear hr1
  have B1 : ((w.alloc (.cells #[.int .i64 a0] 3 (0, 0))).alloc (.cells #[.slice A1 l1.length c1] 25 (0, 0))).heap[w.heap.size]? = some (.cells #[.int .i64 a0] 3 (0, 0)) := blk_alloc (blk_new _ _) _
  have B2 : ((w.alloc (.cells #[.int .i64 a0] 3 (0, 0))).alloc (.cells #[.slice A1 l1.length c1] 25 (0, 0))).heap[w.heap.size + 1]? = some (.cells #[.slice A1 l1.length c1] 25 (0, 0)) := by
    have := blk_new (w.alloc (.cells #[.int .i64 a0] 3 (0, 0))) (.cells #[.slice A1 l1.length c1] 25 (0, 0))
    simpa using this
  have HB1 := Aside0.mk B1
  have HB2 := Aside0.mk B2
  clear B1 B2
  have eg := enters_of Try.func95 (by kernel_rfl) rfl
  have hX := fun W2 hx2 hy hz => Go.Proofs.Ytipihdhghbkpfaa.H.indices_c l1.length hl _ 95 #[.pointer (some ⟨w.heap.size, 0, none⟩), .pointer (some ⟨w.heap.size + 1, 0, none⟩)] eg W2 (idle_lit k a0 A1 c1 l1 hc1 hv w.heap.size (w.heap.size + 1) W2 hx2 hy hz)
  have HX := Aside0.mk hX
  clear hX hv
  go_enter Try.func75, Try.ntmps75
  go_wp2_with (go_at_call 62; refine (HX.out _ (Kd.C_alloc (Kd.C_alloc HR.out _) _) HB1.out HB2.out).mono ?_; rintro e w3 ⟨v3, rfl, ho, hb3⟩)
  go_ret
  exact ⟨_, rfl, Kd.R_lower ho (below_size (below_alloc (below_alloc (Below.refl _ _) _) _)), below_step (below_alloc (below_alloc (Below.refl _ _) _) _) hb3⟩

/-! ### impl_IdleCalls: function 40 -/
def impl_IdleCalls.f (k : Nat) (a0 : Int) (l1 : List (S53)) : Option (List Int × Bool) := (impl_AreCalls.f a0 l1).bind fun t226 => (if t226 = true then ((impl_idle.f k a0 l1).bind fun t227 => (some (t227, true))) else (some (([] : List Int), false)))
theorem impl_IdleCalls.mono : ∀ a0 a1 k, LeO (impl_IdleCalls.f k a0 a1) (impl_IdleCalls.f (k + 1) a0 a1) := by
  intro a0 a1 k
  unfold impl_IdleCalls.f
  repeat' first
      | (with_reducible exact impl_idle.mono _ _ _)
      | (with_reducible exact LeO.refl _)
      | (with_reducible exact LeO.none _)
      | (with_reducible refine LeO.ite ?_ ?_)
      | (with_reducible refine LeO.bind ?_ (fun _ => ?_))
      | exact impl_idle.mono _ _ _
      | exact LeO.none _
      | refine LeO.ite ?_ ?_
      | refine LeO.bind ?_ (fun _ => ?_)
set_option maxHeartbeats 8000000 in
set_option maxRecDepth 100000 in
theorem impl_IdleCalls.calls (k : Nat) (a0 : Int) (A1 : Option Addr) (c1 : Nat) (l1 : List (S53)) (r1 : List Int) (r2 : Bool) (w : World) (hr1 : Kd.C k53 w A1 l1.length l1) (hc1 : l1.length ≤ c1) (h : impl_IdleCalls.f k a0 l1 = some (r1, r2)) :
    Calls Try.prog 40 #[.int .i64 a0, .slice A1 l1.length c1] w fun e w' => ∃ v0_ : Value, e = .returned (.tuple #[v0_, .bool r2]) ∧ Kd.R (Kd.int .i64) 3 w' w.heap.size (fun _ => True) v0_ r1 ∧ Below w.heap.size w w' := by
  have HR1 := Aside0.mk hr1
  have HC1 := Aside0.mk hc1
  clear hr1 hc1
  have HB := Aside0.mk (Below.refl w.heap.size w)
  have H : ((impl_AreCalls.f a0 l1).bind fun t226 => (if t226 = true then ((impl_idle.f k a0 l1).bind fun t227 => (some (t227, true))) else (some (([] : List Int), false)))) = some (r1, r2) := h
  clear h
  replace H := Option.bind_eq_some_iff.mp H
  obtain ⟨t226, A30, H⟩ := H
  replace H : (if t226 = true then ((impl_idle.f k a0 l1).bind fun t227 => (some (t227, true))) else (some (([] : List Int), false))) = some (r1, r2) := H
  have A3 := Aside0.mk A30
  clear A30
  by_cases c4 : t226 = true
  · subst c4
    have H1 : ((impl_idle.f k a0 l1).bind fun t227 => (some (t227, true))) = some (r1, r2) := by rw [if_pos rfl] at H; exact H
    clear H
    have H := H1
    clear H1
    replace H := Option.bind_eq_some_iff.mp H
    obtain ⟨t227, A50, H⟩ := H
    replace H : (some (t227, true)) = some (r1, r2) := H
    have A5 := Aside0.mk A50
    clear A50
    simp only [Option.some.injEq, Prod.mk.injEq] at H
    obtain ⟨rfl, rfl⟩ := H
    go_enter Try.func40, Try.ntmps40
    go_wp2_with (first | ((with_reducible refine gate_callee (f := 18) rfl ?_); refine goesL_ (some 8) rfl rfl Try.func18 (by kernel_rfl) rfl #[.int .i64 a0, .slice A1 l1.length c1] rfl (by (try simp only [List.map_toArray, List.map_cons, List.map_nil]); first | done | rfl | (simp only [List.length_drop, List.length_take]; rfl)) ?_; (with_reducible refine (impl_AreCalls.calls a0 _ _ l1 true _ ?side1 ?side2 A3.out).mono ?_); (case side1 => repeat (first | exact HR1.out | (with_reducible refine Kd.C_alloc ?_ _) | (with_reducible refine Kd.C_drewN ?_ _) | (with_reducible refine Kd.C_drew ?_))); (case side2 => exact HC1.out); rintro e w6 ⟨rfl, hb⟩; refine ⟨_, rfl, ?_⟩; have n0_ := Aside0.mk (below_step (by repeat (first | (with_reducible first | exact HB.out | apply below_alloc | apply pw_below_drewN | apply below_drew1) | exact HB.out)) hb); clear HB; have HB := n0_; clear n0_; (try clear hb); (try clear hb2); (try clear hk); (try clear hi)) | ((with_reducible refine gate_callee (f := 75) rfl ?_); refine goesL_ (some 12) rfl rfl Try.func75 (by kernel_rfl) rfl #[.int .i64 a0, .slice A1 l1.length c1] rfl (by (try simp only [List.map_toArray, List.map_cons, List.map_nil]); first | done | rfl | (simp only [List.length_drop, List.length_take]; rfl)) ?_; (with_reducible refine (impl_idle.calls k a0 _ _ l1 t227 _ ?side1 ?side2 A5.out).mono ?_); (case side1 => repeat (first | exact (Kd.C_below HR1.out HB.out) | (with_reducible refine Kd.C_alloc ?_ _) | (with_reducible refine Kd.C_drewN ?_ _) | (with_reducible refine Kd.C_drew ?_))); (case side2 => exact HC1.out); rintro e w7 ⟨v228, rfl, ho0, hb⟩; refine ⟨_, rfl, ?_⟩; have n0_ := Aside0.mk (Kd.R_lower ho0 (below_size (by repeat (first | (with_reducible first | exact HB.out | apply below_alloc | apply pw_below_drewN | apply below_drew1) | exact HB.out)))); have n1_ := Aside0.mk (below_step (by repeat (first | (with_reducible first | exact HB.out | apply below_alloc | apply pw_below_drewN | apply below_drew1) | exact HB.out)) hb); clear HB; have HO229 := n0_; have HB := n1_; clear n0_ n1_; (try clear hb); (try clear hb2); (try clear hk); (try clear hi); (try clear ho0)))
    go_ret2
    exact ⟨_, by first | rfl | (simp [errW_none, errW_some] <;> rfl) | (simp [*, errW_none, errW_some] <;> rfl), by (with_reducible repeat (first | apply Kd.R_alloc | apply Kd.R_drewN | apply Kd.R_drew)); exact HO229.out, by repeat (first | (with_reducible first | exact HB.out | apply below_alloc | apply pw_below_drewN | apply below_drew1) | exact HB.out)⟩
  · replace c4 := Bool.eq_false_iff.mpr c4
    subst c4
    have H1 : (some (([] : List Int), false)) = some (r1, r2) := by rw [if_neg (show ¬ (false = true) by decide)] at H; exact H
    clear H
    have H := H1
    clear H1
    simp only [Option.some.injEq, Prod.mk.injEq] at H
    obtain ⟨rfl, rfl⟩ := H
    go_enter Try.func40, Try.ntmps40
    go_wp2_with (first | ((with_reducible refine gate_callee (f := 18) rfl ?_); refine goesL_ (some 8) rfl rfl Try.func18 (by kernel_rfl) rfl #[.int .i64 a0, .slice A1 l1.length c1] rfl (by (try simp only [List.map_toArray, List.map_cons, List.map_nil]); first | done | rfl | (simp only [List.length_drop, List.length_take]; rfl)) ?_; (with_reducible refine (impl_AreCalls.calls a0 _ _ l1 false _ ?side1 ?side2 A3.out).mono ?_); (case side1 => repeat (first | exact HR1.out | (with_reducible refine Kd.C_alloc ?_ _) | (with_reducible refine Kd.C_drewN ?_ _) | (with_reducible refine Kd.C_drew ?_))); (case side2 => exact HC1.out); rintro e w8 ⟨rfl, hb⟩; refine ⟨_, rfl, ?_⟩; have n0_ := Aside0.mk (below_step (by repeat (first | (with_reducible first | exact HB.out | apply below_alloc | apply pw_below_drewN | apply below_drew1) | exact HB.out)) hb); clear HB; have HB := n0_; clear n0_; (try clear hb); (try clear hb2); (try clear hk); (try clear hi)))
    go_ret2
    exact ⟨_, by first | rfl | (simp [errW_none, errW_some] <;> rfl) | (simp [*, errW_none, errW_some] <;> rfl), by first | exact Kd.R_nil _ _ _ _ _ | exact Kd.N_nil _ _ _ _ _ | exact Kd.V_nil _ _ _ _ _ | exact Kd.Q_nil _ _ _ _ _ | exact Kd.S_nil _ _ _ _ _, by repeat (first | (with_reducible first | exact HB.out | apply below_alloc | apply pw_below_drewN | apply below_drew1) | exact HB.out)⟩

end Go.Proofs.Ytipihdhghbkpfaa.PFnExactIdleCalls
