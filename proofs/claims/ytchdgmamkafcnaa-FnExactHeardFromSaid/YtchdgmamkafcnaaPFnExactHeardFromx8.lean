-- Written by the session's mkprint.py over the kit's print.py (function texts marked OURS are the session's own).
import Derived.Test.YtchdgmamkafcnaaPFnExactHeardFromx0
import Derived.Test.YtchdgmamkafcnaaPFnExactHeardFromx3
import Derived.Test.YtchdgmamkafcnaaPFnExactHeardFromx5
import Derived.Test.YtchdgmamkafcnaaPFnExactHeardFromx6
import Derived.Test.YtchdgmamkafcnaaPFnExactHeardFromx7
import Derived.Test.YtchdgmamkafcnaaHContLetter
namespace Go.Proofs.Ytchdgmamkafcnaa.PFnExactHeardFrom
open Go.RowKit Go.Proofs.YtchdgmamkafcnaaW.PrintWords Go.Proofs.YtchdgmamkafcnaaW.PrintLast Go.Proofs.YtchdgmamkafcnaaW.PrintMore
attribute [local go_sem] max2_int min2_int max_two min_two max_three min_three max_four min_four   -- for this text's walks alone
set_option linter.unusedVariables false
set_option linter.unusedSimpArgs false

/-! ### spec_HeardFrom: function 38 -/
def spec_HeardFrom.j0 : Nat → Int → List (S59) → Int → Bool → Option (List Int × Bool)
  | 0, _, _, _, _ => none
  | k + 1, x0, x1, x2, x18 => if x18 = true then (some (([] : List Int), false)) else ((spec_leHeard.f k x0 x1).bind fun t144 => (if 0 ≤ x2 then (if x2 < (t144.length : Int) then ((spec_caBits.f k (rd t144 x2)).bind fun t148 => (some (t148, true))) else (none)) else (none)))
def spec_HeardFrom.f (k : Nat) (a0 : Int) (l1 : List (S59)) (a2 : Int) : Option (List Int × Bool) := (spec_leArrows.f k a0 l1).bind fun t142 => (if t142 = true then ((spec_l1In.f a2 0 (wrap64 (a0 - 1))).bind fun t143 => (spec_HeardFrom.j0 k a0 l1 a2 (!t143))) else (spec_HeardFrom.j0 k a0 l1 a2 true))
theorem spec_HeardFrom.mono_l : ∀ k, (∀ y0 y1 y2 y3, LeO (spec_HeardFrom.j0 k y0 y1 y2 y3) (spec_HeardFrom.j0 (k + 1) y0 y1 y2 y3))
  | 0 => fun _ _ _ _ r h => by simp [spec_HeardFrom.j0] at h
  | k + 1 => by
    have ih0 := spec_HeardFrom.mono_l k
    · intro y0 y1 y2 y3
      unfold spec_HeardFrom.j0
      repeat' first
      | (with_reducible exact ih0 _ _ _ _)
      | (with_reducible exact spec_caBits.mono _ _)
      | (with_reducible exact spec_leArrows.mono _ _ _)
      | (with_reducible exact spec_leHeard.mono _ _ _)
      | (with_reducible exact LeO.refl _)
      | (with_reducible exact LeO.none _)
      | (with_reducible refine LeO.ite ?_ ?_)
      | (with_reducible refine LeO.bind ?_ (fun _ => ?_))
      | exact ih0 _ _ _ _
      | exact spec_caBits.mono _ _
      | exact spec_leArrows.mono _ _ _
      | exact spec_leHeard.mono _ _ _
      | exact LeO.none _
      | refine LeO.ite ?_ ?_
      | refine LeO.bind ?_ (fun _ => ?_)
theorem spec_HeardFrom.mono : ∀ a0 a1 a2 k, LeO (spec_HeardFrom.f k a0 a1 a2) (spec_HeardFrom.f (k + 1) a0 a1 a2) := by
  intro a0 a1 a2 k
  have ih0 := spec_HeardFrom.mono_l k
  unfold spec_HeardFrom.f
  repeat' first
      | (with_reducible exact ih0 _ _ _ _)
      | (with_reducible exact spec_caBits.mono _ _)
      | (with_reducible exact spec_leArrows.mono _ _ _)
      | (with_reducible exact spec_leHeard.mono _ _ _)
      | (with_reducible exact LeO.refl _)
      | (with_reducible exact LeO.none _)
      | (with_reducible refine LeO.ite ?_ ?_)
      | (with_reducible refine LeO.bind ?_ (fun _ => ?_))
      | exact ih0 _ _ _ _
      | exact spec_caBits.mono _ _
      | exact spec_leArrows.mono _ _ _
      | exact spec_leHeard.mono _ _ _
      | exact LeO.none _
      | refine LeO.ite ?_ ?_
      | refine LeO.bind ?_ (fun _ => ?_)
set_option maxHeartbeats 8000000 in
set_option maxRecDepth 100000 in
theorem spec_HeardFrom.calls (k : Nat) (a0 : Int) (A1 : Option Addr) (c1 : Nat) (l1 : List (S59)) (a2 : Int) (r1 : List Int) (r2 : Bool) (w : World) (hr1 : Kd.C k59 w A1 l1.length l1) (hc1 : l1.length ≤ c1) (h : spec_HeardFrom.f k a0 l1 a2 = some (r1, r2)) :
    Calls Try.prog 38 #[.int .i64 a0, .slice A1 l1.length c1, .int .i64 a2] w fun e w' => ∃ v0_ : Value, e = .returned (.tuple #[v0_, .bool r2]) ∧ Kd.R (Kd.int .i64) 3 w' w.heap.size (fun _ => True) v0_ r1 ∧ Below w.heap.size w w' := by
  have HR1 := Aside0.mk hr1
  have HC1 := Aside0.mk hc1
  clear hr1 hc1
  have HB := Aside0.mk (Below.refl w.heap.size w)
  have H : ((spec_leArrows.f k a0 l1).bind fun t142 => (if t142 = true then ((spec_l1In.f a2 0 (wrap64 (a0 - 1))).bind fun t143 => (spec_HeardFrom.j0 k a0 l1 a2 (!t143))) else (spec_HeardFrom.j0 k a0 l1 a2 true))) = some (r1, r2) := h
  clear h
  have HC4 := Aside0.mk H
  clear H
  go_enter Try.func38, Try.ntmps38
  go_upto_region 1 with (fail)
  go_cut [18] (fun v18 wc => ∃ (kq : Nat) (x18_3 : Bool), v18 = .bool x18_3 ∧ Aside0 (spec_HeardFrom.j0 kq a0 l1 a2 x18_3 = some (r1, r2)) ∧ Aside0 (kq ≤ k) ∧ Aside0 (Below w.heap.size w wc))
  case first =>
    have H := HC4.out
    clear HC4
    replace H := Option.bind_eq_some_iff.mp H
    obtain ⟨t142, A50, H⟩ := H
    replace H : (if t142 = true then ((spec_l1In.f a2 0 (wrap64 (a0 - 1))).bind fun t143 => (spec_HeardFrom.j0 k a0 l1 a2 (!t143))) else (spec_HeardFrom.j0 k a0 l1 a2 true)) = some (r1, r2) := H
    have A5 := Aside0.mk A50
    clear A50
    by_cases c6 : t142 = true
    · subst c6
      have H1 : ((spec_l1In.f a2 0 (wrap64 (a0 - 1))).bind fun t143 => (spec_HeardFrom.j0 k a0 l1 a2 (!t143))) = some (r1, r2) := by rw [if_pos rfl] at H; exact H
      clear H
      have H := H1
      clear H1
      replace H := Option.bind_eq_some_iff.mp H
      obtain ⟨t143, A70, H⟩ := H
      replace H : (spec_HeardFrom.j0 k a0 l1 a2 (!t143)) = some (r1, r2) := H
      have A7 := Aside0.mk A70
      clear A70
      have H' := Aside0.mk H
      clear H
      go_wp2_with (first | ((with_reducible refine gate_callee (f := 75) rfl ?_); refine goesL_ (some 10) rfl rfl Try.func75 (by kernel_rfl) rfl #[.int .i64 a0, .slice A1 l1.length c1] rfl (by (try simp only [List.map_toArray, List.map_cons, List.map_nil]); first | done | rfl | (simp only [List.length_drop, List.length_take]; rfl)) ?_; (with_reducible refine (spec_leArrows.calls k a0 _ _ l1 true _ ?side1 ?side2 A5.out).mono ?_); (case side1 => repeat (first | exact (Kd.C_below HR1.out HB.out) | (with_reducible refine Kd.C_alloc ?_ _) | (with_reducible refine Kd.C_drewN ?_ _) | (with_reducible refine Kd.C_drew ?_))); (case side2 => exact HC1.out); rintro e w8 ⟨rfl, hb⟩; refine ⟨_, rfl, ?_⟩; have n0_ := Aside0.mk (below_step (by repeat (first | (with_reducible first | exact HB.out | apply below_alloc | apply pw_below_drewN | apply below_drew1) | exact HB.out)) hb); clear HB; have HB := n0_; clear n0_; (try clear hb); (try clear hb2); (try clear hk); (try clear hi)) | (go_at_call 62; (with_reducible refine (spec_l1In.calls a2 0 (wrap64 (a0 - 1)) t143 _ A7.out).mono ?_); rintro e w' ⟨rfl, ⟨nd, rfl⟩⟩))
      go_meet
      case rel => exact ⟨_, (!t143), (by first | rfl | (simp; done) | (simp [*]; done)), H', ⟨by first | omega | exact Nat.le_refl _⟩, ⟨by repeat (first | (with_reducible first | exact HB.out | apply below_alloc | apply pw_below_drewN | apply below_drew1) | exact HB.out)⟩⟩
    · replace c6 := Bool.eq_false_iff.mpr c6
      subst c6
      have H1 : (spec_HeardFrom.j0 k a0 l1 a2 true) = some (r1, r2) := by rw [if_neg (show ¬ (false = true) by decide)] at H; exact H
      clear H
      have H := H1
      clear H1
      have H' := Aside0.mk H
      clear H
      go_wp2_with (first | ((with_reducible refine gate_callee (f := 75) rfl ?_); refine goesL_ (some 10) rfl rfl Try.func75 (by kernel_rfl) rfl #[.int .i64 a0, .slice A1 l1.length c1] rfl (by (try simp only [List.map_toArray, List.map_cons, List.map_nil]); first | done | rfl | (simp only [List.length_drop, List.length_take]; rfl)) ?_; (with_reducible refine (spec_leArrows.calls k a0 _ _ l1 false _ ?side1 ?side2 A5.out).mono ?_); (case side1 => repeat (first | exact (Kd.C_below HR1.out HB.out) | (with_reducible refine Kd.C_alloc ?_ _) | (with_reducible refine Kd.C_drewN ?_ _) | (with_reducible refine Kd.C_drew ?_))); (case side2 => exact HC1.out); rintro e w9 ⟨rfl, hb⟩; refine ⟨_, rfl, ?_⟩; have n0_ := Aside0.mk (below_step (by repeat (first | (with_reducible first | exact HB.out | apply below_alloc | apply pw_below_drewN | apply below_drew1) | exact HB.out)) hb); clear HB; have HB := n0_; clear n0_; (try clear hb); (try clear hb2); (try clear hk); (try clear hi)))
      go_meet
      case rel => exact ⟨_, (true), (by first | rfl | (simp; done) | (simp [*]; done)), H', ⟨by first | omega | exact Nat.le_refl _⟩, ⟨by repeat (first | (with_reducible first | exact HB.out | apply below_alloc | apply pw_below_drewN | apply below_drew1) | exact HB.out)⟩⟩
  case rest =>
    clear HC4
    try clear c1
    try clear p2
    try clear c3
    try clear c6
    try clear p6
    try clear c7
    obtain ⟨kq, x18_3, rfl, HA, HJ3, HB⟩ := hcut
    cases kq with
    | zero => exact absurd HA.out (by simp [spec_HeardFrom.j0])
    | succ kj3 =>
      have H := HA.out
      clear HA
      simp only [spec_HeardFrom.j0] at H
      by_cases c10 : x18_3 = true
      · subst c10
        have H1 : (some (([] : List Int), false)) = some (r1, r2) := by rw [if_pos rfl] at H; exact H
        clear H
        have H := H1
        clear H1
        simp only [Option.some.injEq, Prod.mk.injEq] at H
        obtain ⟨rfl, rfl⟩ := H
        go_wp2
        go_ret2
        exact ⟨_, by first | rfl | (simp [errW_none, errW_some] <;> rfl) | (simp [*, errW_none, errW_some] <;> rfl), by first | exact Kd.R_nil _ _ _ _ _ | exact Kd.N_nil _ _ _ _ _ | exact Kd.V_nil _ _ _ _ _ | exact Kd.Q_nil _ _ _ _ _ | exact Kd.S_nil _ _ _ _ _, by repeat (first | (with_reducible first | exact HB.out | apply below_alloc | apply pw_below_drewN | apply below_drew1) | exact HB.out)⟩
      · replace c10 := Bool.eq_false_iff.mpr c10
        subst c10
        have H1 : ((spec_leHeard.f kj3 a0 l1).bind fun t144 => (if 0 ≤ a2 then (if a2 < (t144.length : Int) then ((spec_caBits.f kj3 (rd t144 a2)).bind fun t148 => (some (t148, true))) else (none)) else (none))) = some (r1, r2) := by rw [if_neg (show ¬ (false = true) by decide)] at H; exact H
        clear H
        have H := H1
        clear H1
        replace H := Option.bind_eq_some_iff.mp H
        obtain ⟨t144, A110, H⟩ := H
        replace H : (if 0 ≤ a2 then (if a2 < (t144.length : Int) then ((spec_caBits.f kj3 (rd t144 a2)).bind fun t148 => (some (t148, true))) else (none)) else (none)) = some (r1, r2) := H
        have A11 := Aside0.mk A110
        clear A110
        by_cases c12 : 0 ≤ a2
        · rw [if_pos c12] at H
          have c12b0 : decide (0 ≤ a2) = true := decide_eq_true c12
          clear c12
          by_cases c13 : a2 < (t144.length : Int)
          · rw [if_pos c13] at H
            have c13b0 : decide (a2 < (t144.length : Int)) = true := decide_eq_true c13
            clear c13
            replace H := Option.bind_eq_some_iff.mp H
            obtain ⟨t148, A140, H⟩ := H
            replace H : (some (t148, true)) = some (r1, r2) := H
            have A14 := Aside0.mk A140
            clear A140
            simp only [Option.some.injEq, Prod.mk.injEq] at H
            obtain ⟨rfl, rfl⟩ := H
            go_wp2_with (first | ((with_reducible refine gate_callee (f := 76) rfl ?_); refine goesL_ (some 21) rfl rfl Try.func76 (by kernel_rfl) rfl #[.int .i64 a0, .slice A1 l1.length c1] rfl (by (try simp only [List.map_toArray, List.map_cons, List.map_nil]); first | done | rfl | (simp only [List.length_drop, List.length_take]; rfl)) ?_; (with_reducible refine (spec_leHeard.calls kj3 a0 _ _ l1 t144 _ ?side1 ?side2 A11.out).mono ?_); (case side1 => repeat (first | exact (Kd.C_below HR1.out HB.out) | (with_reducible refine Kd.C_alloc ?_ _) | (with_reducible refine Kd.C_drewN ?_ _) | (with_reducible refine Kd.C_drew ?_))); (case side2 => exact HC1.out); rintro e w15 ⟨v145, rfl, ho0, hb⟩; refine ⟨_, rfl, ?_⟩; have n0_ := Aside0.mk (Kd.R_lower ho0 (below_size (by repeat (first | (with_reducible first | exact HB.out | apply below_alloc | apply pw_below_drewN | apply below_drew1) | exact HB.out)))); have n1_ := Aside0.mk (below_step (by repeat (first | (with_reducible first | exact HB.out | apply below_alloc | apply pw_below_drewN | apply below_drew1) | exact HB.out)) hb); clear HB; have HO146 := n0_; have HB := n1_; clear n0_ n1_; (try clear hb); (try clear hb2); (try clear hk); (try clear hi); (try clear ho0); obtain ⟨Ao16, co16, eo16⟩ := Kd.R_slice HO146.out; subst eo16; have p147 : 0 ≤ (a2 : Int) := of_decide_eq_true (by first | (with_reducible assumption) | assumption); have q147 : a2 < (t144.length : Int) := of_decide_eq_true (by first | (with_reducible assumption) | assumption); obtain ⟨ad147, e147, hx147_0⟩ := Kd.at_int (Kd.R_reads' HO146.out).2.2 a2 p147 q147; cases e147; replace p147 := eq_true p147; replace q147 := eq_true q147) | ((with_reducible refine gate_callee (f := 79) rfl ?_); refine goesL_ (some 25) rfl rfl Try.func79 (by kernel_rfl) rfl #[.int .i64 (rd t144 a2)] rfl (by (try simp only [List.map_toArray, List.map_cons, List.map_nil]); first | done | rfl | (simp only [List.length_drop, List.length_take]; rfl)) ?_; (with_reducible refine (spec_caBits.calls kj3 (rd t144 a2) t148 _ A14.out).mono ?_); rintro e w17 ⟨v149, rfl, ho0, hb⟩; refine ⟨_, rfl, ?_⟩; have n0_ := Aside0.mk (Kd.R_elder' (by (with_reducible repeat (first | apply Kd.R_alloc | apply Kd.R_drewN | apply Kd.R_drew)); exact HO146.out) (Kd.R_base ho0) hb); have n1_ := Aside0.mk (Kd.R_lower (Kd.R_new' ho0 (Kd.R_lt (by (with_reducible repeat (first | apply Kd.R_alloc | apply Kd.R_drewN | apply Kd.R_drew)); exact HO146.out))) (below_size (by repeat (first | (with_reducible first | exact HB.out | apply below_alloc | apply pw_below_drewN | apply below_drew1) | exact HB.out)))); have n2_ := Aside0.mk (below_step (by repeat (first | (with_reducible first | exact HB.out | apply below_alloc | apply pw_below_drewN | apply below_drew1) | exact HB.out)) hb); clear HO146; clear HB; have HO146 := n0_; have HO150 := n1_; have HB := n2_; clear n0_ n1_ n2_; (try clear hb); (try clear hb2); (try clear hk); (try clear hi); (try clear ho0)))
            go_ret2
            exact ⟨_, by first | rfl | (simp [errW_none, errW_some] <;> rfl) | (simp [*, errW_none, errW_some] <;> rfl), by (with_reducible repeat (first | apply Kd.R_alloc | apply Kd.R_drewN | apply Kd.R_drew)); exact Kd.R_mono HO150.out (fun _ hk => trivial), by repeat (first | (with_reducible first | exact HB.out | apply below_alloc | apply pw_below_drewN | apply below_drew1) | exact HB.out)⟩
          · rw [if_neg c13] at H
            exact absurd H (by simp)
        · rw [if_neg c12] at H
          exact absurd H (by simp)

/-! ### impl_within: function 92 -/
def impl_within.f (a0 : Int) (a1 : Int) (a2 : Int) : Option (Bool) := if a1 ≤ a0 then (some (decide (a0 ≤ a2))) else (some false)
set_option maxHeartbeats 8000000 in
set_option maxRecDepth 100000 in
theorem impl_within.calls (a0 : Int) (a1 : Int) (a2 : Int) (r : Bool) (w : World) (h : impl_within.f a0 a1 a2 = some r) :
    Calls Try.prog 92 #[.int .i64 a0, .int .i64 a1, .int .i64 a2] w fun e w' => e = .returned (.bool r) ∧ Drawn0 w w' := by
  have H : (if a1 ≤ a0 then (some (decide (a0 ≤ a2))) else (some false)) = some r := h
  clear h
  by_cases c4 : a1 ≤ a0
  · rw [if_pos c4] at H
    have c4b0 : decide (a1 ≤ a0) = true := decide_eq_true c4
    clear c4
    obtain rfl := Option.some.inj H
    go_enter Try.func92, Try.ntmps92
    go_wp2
    go_ret
    exact ⟨by first | rfl | (simp; done) | (simp [*]; done), by repeat (first | exact Drawn0.refl _ | apply Drawn0.step)⟩
  · rw [if_neg c4] at H
    have c4b0 : decide (a1 ≤ a0) = false := decide_eq_false c4
    clear c4
    obtain rfl := Option.some.inj H
    go_enter Try.func92, Try.ntmps92
    go_wp2
    go_ret
    exact ⟨by first | rfl | (simp; done) | (simp [*]; done), by repeat (first | exact Drawn0.refl _ | apply Drawn0.step)⟩

/-! ### impl_isFriend: function 59 -/
def impl_isFriend.f (a0 : Int) (a1 : Int) : Option (Bool) := (impl_within.f a1 0 (wrap64 (a0 - 1))).bind fun t151 => (some t151)
set_option maxHeartbeats 8000000 in
set_option maxRecDepth 100000 in
theorem impl_isFriend.calls (a0 : Int) (a1 : Int) (r : Bool) (w : World) (h : impl_isFriend.f a0 a1 = some r) :
    Calls Try.prog 59 #[.int .i64 a0, .int .i64 a1] w fun e w' => e = .returned (.bool r) ∧ Drawn0 w w' := by
  have H : ((impl_within.f a1 0 (wrap64 (a0 - 1))).bind fun t151 => (some t151)) = some r := h
  clear h
  replace H := Option.bind_eq_some_iff.mp H
  obtain ⟨t151, A30, H⟩ := H
  replace H : (some t151) = some r := H
  have A3 := Aside0.mk A30
  clear A30
  obtain rfl := Option.some.inj H
  go_enter Try.func59, Try.ntmps59
  go_wp2_with (first | ((with_reducible refine gate_callee (f := 92) rfl ?_); refine goesL_ (some 8) rfl rfl Try.func92 (by kernel_rfl) rfl #[.int .i64 a1, .int .i64 0, .int .i64 (wrap64 (a0 - 1))] rfl (by (try simp only [List.map_toArray, List.map_cons, List.map_nil]); first | done | rfl | (simp only [List.length_drop, List.length_take]; rfl)) ?_; (with_reducible refine (impl_within.calls a1 0 (wrap64 (a0 - 1)) t151 _ A3.out).mono ?_); rintro e w' ⟨rfl, ⟨nd, rfl⟩⟩; refine ⟨_, rfl, ?_⟩))
  go_ret
  exact ⟨by first | rfl | (simp; done) | (simp [*]; done), by repeat (first | exact Drawn0.refl _ | apply Drawn0.step)⟩

/-! ### impl_areFriends: function 56 -/
def impl_areFriends.f (a0 : Int) : Option (Bool) := (impl_within.f a0 1 10).bind fun t152 => (some t152)
set_option maxHeartbeats 8000000 in
set_option maxRecDepth 100000 in
theorem impl_areFriends.calls (a0 : Int) (r : Bool) (w : World) (h : impl_areFriends.f a0 = some r) :
    Calls Try.prog 56 #[.int .i64 a0] w fun e w' => e = .returned (.bool r) ∧ Drawn0 w w' := by
  have H : ((impl_within.f a0 1 10).bind fun t152 => (some t152)) = some r := h
  clear h
  replace H := Option.bind_eq_some_iff.mp H
  obtain ⟨t152, A20, H⟩ := H
  replace H : (some t152) = some r := H
  have A2 := Aside0.mk A20
  clear A20
  obtain rfl := Option.some.inj H
  go_enter Try.func56, Try.ntmps56
  go_wp2_with (first | ((with_reducible refine gate_callee (f := 92) rfl ?_); refine goesL_ (some 4) rfl rfl Try.func92 (by kernel_rfl) rfl #[.int .i64 a0, .int .i64 1, .int .i64 10] rfl (by (try simp only [List.map_toArray, List.map_cons, List.map_nil]); first | done | rfl | (simp only [List.length_drop, List.length_take]; rfl)) ?_; (with_reducible refine (impl_within.calls a0 1 10 t152 _ A2.out).mono ?_); rintro e w' ⟨rfl, ⟨nd, rfl⟩⟩; refine ⟨_, rfl, ?_⟩))
  go_ret
  exact ⟨by first | rfl | (simp; done) | (simp [*]; done), by repeat (first | exact Drawn0.refl _ | apply Drawn0.step)⟩

/-! ### impl_AreLetters: OURS: function 18 -/
def isLetterB (n a b : Int) : Bool := (decide (0 ≤ a) && decide (a < n)) && ((decide (0 ≤ b) && decide (b < n)) && !(a == b))
def areLettersB (n : Int) (l : List S59) : Bool := decide (1 ≤ n) && (decide (n ≤ 10) && (decide (l.length ≤ 60) && l.all fun c => isLetterB n c.f0 c.f1))
theorem areFriendsL_f (n : Int) : impl_areFriends.f n = some (decide (1 ≤ n) && decide (n ≤ 10)) := by
  unfold impl_areFriends.f impl_within.f
  by_cases h1 : 1 ≤ n <;> by_cases h2 : n ≤ 10 <;> simp [h1, h2]
theorem isFriendL_f (n a : Int) (h1 : 1 ≤ n) (h2 : n ≤ 10) : impl_isFriend.f n a = some (decide (0 ≤ a) && decide (a < n)) := by
  unfold impl_isFriend.f impl_within.f
  have e : wrap64 (n - 1) = n - 1 := by unfold wrap64; omega
  rw [e]
  by_cases g1 : 0 ≤ a <;> by_cases g2 : a < n
  · have : a ≤ n - 1 := by omega
    simp [g1, g2, this]
  · have : ¬ a ≤ n - 1 := by omega
    simp [g1, g2, this]
  · simp [g1]
  · simp [g1]
instance : Inhabited S59 := ⟨z59⟩
set_option maxHeartbeats 1000000 in
set_option maxRecDepth 100000 in
theorem areLetters_lit (n : Int) (h1 : 1 ≤ n) (h2 : n ≤ 10) (g : Nat) (w : World) (hg : w.heap[g]? = some (.cells #[.int .i64 n] 3 (0, 0))) :
    Go.Proofs.Ytchdgmamkafcnaa.H.PredLetter 58 #[.pointer (some ⟨g, 0, none⟩)] S59.f0 S59.f1 (fun c => !isLetterB n c.f0 c.f1) w := by
  rintro W ⟨a, b⟩ hb
  have hc0 : W.cell? ⟨g, 0, none⟩ = some (.int .i64 n) := by
    have h1 : w.cell? ⟨g, 0, none⟩ = some (.int .i64 n) := (blk_cell hg 0).trans rfl
    exact Go.Proofs.Ytchdgmamkafcnaa.H.cell_b hb h1
  have hc1 : ∀ o, (W.alloc o).cell? ⟨g, 0, none⟩ = some (.int .i64 n) := fun o => Go.Proofs.Ytchdgmamkafcnaa.H.cell_b (below_alloc (Below.refl _ _) o) hc0
  clear hc0
  have hB := Aside0.mk hb
  clear hb hg
  show Calls _ _ #[.agg #[.int .i64 a, .int .i64 b], .pointer (some ⟨g, 0, none⟩)] W fun e w' => e = .returned (.bool (!isLetterB n a b)) ∧ Below w.heap.size w w'
  have ca := fun W2 => impl_isFriend.calls n a _ W2 (isFriendL_f n a h1 h2)
  have cb := fun W2 => impl_isFriend.calls n b _ W2 (isFriendL_f n b h1 h2)
  have hu := Try.underlying59
  unfold isLetterB
  generalize (decide (0 ≤ a) && decide (a < n)) = qa at ca ⊢
  generalize (decide (0 ≤ b) && decide (b < n)) = qb at cb ⊢
  cases qa with
  | false =>
    go_enter Try.func58, Try.ntmps58
    go_wp2_with (go_at_call 59; refine (ca _).mono ?_; rintro e w' ⟨rfl, ⟨nd, rfl⟩⟩)
    go_ret
    exact ⟨rfl, pw_below_drewN (below_alloc hB.out _) _⟩
  | true =>
    cases qb with
    | false =>
      go_enter Try.func58, Try.ntmps58
      go_wp2_with (go_at_call 59; first | (with_reducible refine (ca _).mono ?_; rintro e w' ⟨rfl, ⟨nd, rfl⟩⟩) | (with_reducible refine (cb _).mono ?_; rintro e w' ⟨rfl, ⟨nd2, rfl⟩⟩))
      go_ret
      exact ⟨rfl, by repeat (first | exact hB.out | apply pw_below_drewN | apply below_alloc)⟩
    | true =>
      by_cases hab : a = b
      all_goals
        have hq : (a == b) = decide (a = b) := by simp [hab]
        go_enter Try.func58, Try.ntmps58
        go_wp2_with (go_at_call 59; first | (with_reducible refine (ca _).mono ?_; rintro e w' ⟨rfl, ⟨nd, rfl⟩⟩) | (with_reducible refine (cb _).mono ?_; rintro e w' ⟨rfl, ⟨nd2, rfl⟩⟩))
        go_ret
        exact ⟨by simp [hab], by repeat (first | exact hB.out | apply pw_below_drewN | apply below_alloc)⟩

def impl_AreLetters.f (a0 : Int) (l1 : List S59) : Option Bool := some (areLettersB a0 l1)
set_option maxHeartbeats 1000000 in
set_option maxRecDepth 100000 in
theorem impl_AreLetters.calls (a0 : Int) (A1 : Option Addr) (c1 : Nat) (l1 : List S59) (r : Bool) (w : World) (hr1 : Kd.C k59 w A1 l1.length l1) (hc1 : l1.length ≤ c1) (h : impl_AreLetters.f a0 l1 = some r) :
    Calls Try.prog 18 #[.int .i64 a0, .slice A1 l1.length c1] w fun e w' => e = .returned (.bool r) ∧ Below w.heap.size w w' := by
  obtain rfl := Option.some.inj h
  have hmax : (l1.length : Int) ≤ 9223372036854775807 := by have := Kd.C_max hr1; omega
  have hF := fun W2 => impl_areFriends.calls a0 _ W2 (areFriendsL_f a0)
  by_cases h1 : 1 ≤ a0 ∧ a0 ≤ 10
  · have e1 : (decide (1 ≤ a0) && decide (a0 ≤ 10)) = true := by simp [h1]
    rw [e1] at hF
    by_cases h2 : (l1.length : Int) ≤ 60
    · have hA : areLettersB a0 l1 = !(l1.any fun c => !isLetterB a0 c.f0 c.f1) := by
        have h2' : l1.length ≤ 60 := by omega
        simp [areLettersB, h1, h2', List.all_eq_not_any_not]
      rw [hA]
      have hlit := areLetters_lit a0 h1.1 h1.2 w.heap.size
      have HR := Aside0.mk hr1
      clear hr1 hA
      have eg := enters_of Try.func58 (by kernel_rfl) rfl
      have hcont := fun W2 hx hy => Go.Proofs.Ytchdgmamkafcnaa.H.containsFuncLetter (d := k59) (fa := S59.f0) (fb := S59.f1) rfl (fun _ _ _ h => k59_open h) (fun c => !isLetterB a0 c.f0 c.f1) 58 #[.pointer (some ⟨w.heap.size, 0, none⟩)] eg A1 c1 l1 W2 hx (hlit W2 hy)
      clear hlit
      generalize (l1.any fun c => !isLetterB a0 c.f0 c.f1) = q at hcont ⊢
      have HCO := Aside0.mk hcont
      clear hcont
      go_enter Try.func18, Try.ntmps18
      go_wp2_with (first | (go_at_call 56; refine (hF _).mono ?_; rintro e w' ⟨rfl, ⟨nd, rfl⟩⟩) | (go_at_call 57; refine (HCO.out _ (Kd.C_drewN (Kd.C_alloc HR.out _) _) (blk_drewN (blk_new _ _) _)).mono ?_; rintro e w' ⟨rfl, hb'⟩))
      go_ret
      exact ⟨rfl, below_step (pw_below_drewN (below_alloc (Below.refl _ _) _) _) hb'⟩
    · have hA : areLettersB a0 l1 = false := by
        have h2' : ¬ l1.length ≤ 60 := by omega
        simp [areLettersB, h2']
      rw [hA]
      clear hr1 hA
      go_enter Try.func18, Try.ntmps18
      go_wp2_with (go_at_call 56; refine (hF _).mono ?_; rintro e w' ⟨rfl, ⟨nd, rfl⟩⟩)
      go_ret
      exact ⟨rfl, pw_below_drewN (below_alloc (Below.refl _ _) _) _⟩
  · have e1 : (decide (1 ≤ a0) && decide (a0 ≤ 10)) = false := by rw [Bool.eq_false_iff]; simpa using h1
    rw [e1] at hF
    have hA : areLettersB a0 l1 = false := by
      rw [Bool.eq_false_iff]; intro hh; simp [areLettersB] at hh; exact h1 ⟨hh.1, hh.2.1⟩
    rw [hA]
    clear hr1 hA
    go_enter Try.func18, Try.ntmps18
    go_wp2_with (go_at_call 56; refine (hF _).mono ?_; rintro e w' ⟨rfl, ⟨nd, rfl⟩⟩)
    go_ret
    exact ⟨rfl, pw_below_drewN (below_alloc (Below.refl _ _) _) _⟩


end Go.Proofs.Ytchdgmamkafcnaa.PFnExactHeardFrom
