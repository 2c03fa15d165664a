-- Written by the session's mkprint.py over the kit's print.py (function texts marked OURS are the session's own).
import Derived.Test.YtnlmalicpckfbaaPFnExactFirstRoundsx0
import Derived.Test.YtnlmalicpckfbaaPFnExactFirstRoundsx19
import Derived.Test.YtnlmalicpckfbaaHBase
import Derived.Test.YtnlmalicpckfbaaPFnExactFirstRoundsx15
import Derived.Test.YtnlmalicpckfbaaPFnExactFirstRoundsx17
import Derived.Test.YtnlmalicpckfbaaPFnExactFirstRoundsx18
import Derived.Test.YtnlmalicpckfbaaPFnExactFirstRoundsx6
import Derived.Test.YtnlmalicpckfbaaWApart
import Derived.Test.YtnlmalicpckfbaaWKept
import Derived.Test.YtnlmalicpckfbaaWMore
import Derived.Test.YtnlmalicpckfbaaWN
import Derived.Test.YtnlmalicpckfbaaWShare
namespace Go.Proofs.Ytnlmalicpckfbaa.PFnExactFirstRounds
open Go.RowKit Go.Proofs.YtnlmalicpckfbaaW.PrintWords Go.Proofs.YtnlmalicpckfbaaW.PrintLast Go.Proofs.YtnlmalicpckfbaaW.PrintMore
attribute [local go_sem] max2_int min2_int max_two min_two max_three min_three max_four min_four   -- for this text's walks alone
set_option linter.unusedVariables false
set_option linter.unusedSimpArgs false

/-! ### laws_heldCallSS: function 26 -/
def laws_heldCallSS.l0 : Nat → List (List (S68)) → Int → Int → Option (Int)
  | 0, _, _, _ => none
  | k + 1, x0, x1, x5 => if x5 < (x0.length : Int) then (if 0 ≤ x5 then ((laws_heldCallS.f k (rd_L2 x0 x5) x1).bind fun t285 => (if t285 < 0 then (some (-1)) else (laws_heldCallSS.l0 k x0 t285 (wrap64 (x5 + 1))))) else (none)) else (some x1)
def laws_heldCallSS.f (k : Nat) (l0 : List (List (S68))) (a1 : Int) : Option (Int) := laws_heldCallSS.l0 k l0 a1 0
theorem laws_heldCallSS.mono_l : ∀ k, (∀ y0 y1 y2, LeO (laws_heldCallSS.l0 k y0 y1 y2) (laws_heldCallSS.l0 (k + 1) y0 y1 y2))
  | 0 => fun _ _ _ r h => by simp [laws_heldCallSS.l0] at h
  | k + 1 => by
    have ih0 := laws_heldCallSS.mono_l k
    · intro y0 y1 y2
      unfold laws_heldCallSS.l0
      repeat' first
      | (with_reducible exact ih0 _ _ _)
      | (with_reducible exact laws_heldCallS.mono _ _ _)
      | (with_reducible exact LeO.refl _)
      | (with_reducible exact LeO.none _)
      | (with_reducible refine LeO.ite ?_ ?_)
      | (with_reducible refine LeO.bind ?_ (fun _ => ?_))
      | exact ih0 _ _ _
      | exact laws_heldCallS.mono _ _ _
      | exact LeO.none _
      | refine LeO.ite ?_ ?_
      | refine LeO.bind ?_ (fun _ => ?_)
theorem laws_heldCallSS.mono : ∀ a0 a1 k, LeO (laws_heldCallSS.f k a0 a1) (laws_heldCallSS.f (k + 1) a0 a1) := by
  intro a0 a1 k
  have ih0 := laws_heldCallSS.mono_l k
  unfold laws_heldCallSS.f
  repeat' first
      | (with_reducible exact ih0 _ _ _)
      | (with_reducible exact laws_heldCallS.mono _ _ _)
      | (with_reducible exact LeO.refl _)
      | (with_reducible exact LeO.none _)
      | (with_reducible refine LeO.ite ?_ ?_)
      | (with_reducible refine LeO.bind ?_ (fun _ => ?_))
      | exact ih0 _ _ _
      | exact laws_heldCallS.mono _ _ _
      | exact LeO.none _
      | refine LeO.ite ?_ ?_
      | refine LeO.bind ?_ (fun _ => ?_)
set_option maxHeartbeats 8000000 in
set_option maxRecDepth 100000 in
theorem laws_heldCallSS.calls (k : Nat) (A0 : Option Addr) (c0 : Nat) (l0 : List (List (S68))) (a1 : Int) (r : Int) (w : World) (hr0 : Kd.C (Kd.slice 68 k68) w A0 l0.length l0) (hc0 : l0.length ≤ c0) (h : laws_heldCallSS.f k l0 a1 = some r) :
    Calls Try.prog 26 #[.slice A0 l0.length c0, .int .i64 a1] w fun e w' => e = .returned (.int .i64 r) ∧ Drawn0 w w' := by
  have HR0 := Aside0.mk hr0
  have HC0 := Aside0.mk hc0
  clear hr0 hc0
  have H : (laws_heldCallSS.l0 k l0 a1 0) = some r := h
  clear h
  have H' := Aside0.mk H
  clear H
  go_enter Try.func26, Try.ntmps26
  go_wp2
  go_loopg [1, 5] k (fun kq v1 v5 w' => ∃ (x1_1 : Int) (x5_1 : Int), v1 = .int .i64 x1_1 ∧ v5 = .int .i64 x5_1 ∧ Aside0 (laws_heldCallSS.l0 kq l0 x1_1 x5_1 = some r) ∧ Aside0 (kq ≤ k) ∧ Drawn0 w w')
  case atStart => exact ⟨(a1), (0), (by first | rfl | (simp; done) | (simp [*]; done)), (by first | rfl | (simp; done) | (simp [*]; done)), H', ⟨Nat.le_refl _⟩, by repeat (first | exact Drawn0.refl _ | apply Drawn0.step)⟩
  case round =>
    clear H'
    try clear c2
    try clear p2
    obtain ⟨x1_1, x5_1, rfl, rfl, HA, HK1, ⟨m1, rfl⟩⟩ := hrel
    cases gk with
    | zero => exact absurd HA.out (by simp [laws_heldCallSS.l0])
    | succ k1 =>
      have H := HA.out
      clear HA
      simp only [laws_heldCallSS.l0] at H
      by_cases c3 : x5_1 < (l0.length : Int)
      · rw [if_pos c3] at H
        have c3b0 : decide (x5_1 < (l0.length : Int)) = true := decide_eq_true c3
        clear c3
        by_cases c4 : 0 ≤ x5_1
        · rw [if_pos c4] at H
          have c4b0 : decide (0 ≤ x5_1) = true := decide_eq_true c4
          clear c4
          replace H := Option.bind_eq_some_iff.mp H
          obtain ⟨t285, A50, H⟩ := H
          replace H : (if t285 < 0 then (some (-1)) else (laws_heldCallSS.l0 k1 l0 t285 (wrap64 (x5_1 + 1)))) = some r := H
          have A5 := Aside0.mk A50
          clear A50
          by_cases c6 : t285 < 0
          · rw [if_pos c6] at H
            have c6b0 : decide (t285 < 0) = true := decide_eq_true c6
            clear c6
            obtain rfl := Option.some.inj H
            have p284 : 0 ≤ (x5_1 : Int) := of_decide_eq_true (by first | (with_reducible assumption) | assumption)
            have q284 : x5_1 < (l0.length : Int) := of_decide_eq_true (by first | (with_reducible assumption) | assumption)
            obtain ⟨ad284, A284_0, c284_0, e284, hx284_0, hl284_0, hi284_0⟩ := at_L2 HR0.out x5_1 p284 q284
            cases e284
            have HR284_0 := Aside0.mk hi284_0
            have HC284_0 := Aside0.mk hl284_0
            clear hi284_0 hl284_0
            replace p284 := eq_true p284
            replace q284 := eq_true q284
            go_wp2_with (first | ((with_reducible refine gate_callee (f := 16) rfl ?_); refine goesL_ (some 17) rfl rfl Try.func16 (by kernel_rfl) rfl #[.slice A284_0 (rd_L2 l0 x5_1).length c284_0, .int .i64 x1_1] rfl (by (try simp only [List.map_toArray, List.map_cons, List.map_nil]); first | done | rfl | (simp only [List.length_drop, List.length_take]; rfl)) ?_; (with_reducible refine (laws_heldCallS.calls k1 _ _ (rd_L2 l0 x5_1) x1_1 t285 _ ?side1 ?side2 A5.out).mono ?_); (case side1 => repeat (first | exact HR284_0.out | (with_reducible refine Kd.C_alloc ?_ _) | (with_reducible refine Kd.C_drewN ?_ _) | (with_reducible refine Kd.C_drew ?_))); (case side2 => exact HC284_0.out); rintro e w' ⟨rfl, ⟨nd, rfl⟩⟩; refine ⟨_, rfl, ?_⟩))
            go_ret
            exact ⟨by first | rfl | (simp; done) | (simp [*]; done), by repeat (first | exact Drawn0.refl _ | apply Drawn0.step)⟩
          · rw [if_neg c6] at H
            have c6b0 : decide (t285 < 0) = false := decide_eq_false c6
            clear c6
            have H' := Aside0.mk H
            clear H
            have p284 : 0 ≤ (x5_1 : Int) := of_decide_eq_true (by first | (with_reducible assumption) | assumption)
            have q284 : x5_1 < (l0.length : Int) := of_decide_eq_true (by first | (with_reducible assumption) | assumption)
            obtain ⟨ad284, A284_0, c284_0, e284, hx284_0, hl284_0, hi284_0⟩ := at_L2 HR0.out x5_1 p284 q284
            cases e284
            have HR284_0 := Aside0.mk hi284_0
            have HC284_0 := Aside0.mk hl284_0
            clear hi284_0 hl284_0
            replace p284 := eq_true p284
            replace q284 := eq_true q284
            go_wp2_with (first | ((with_reducible refine gate_callee (f := 16) rfl ?_); refine goesL_ (some 17) rfl rfl Try.func16 (by kernel_rfl) rfl #[.slice A284_0 (rd_L2 l0 x5_1).length c284_0, .int .i64 x1_1] rfl (by (try simp only [List.map_toArray, List.map_cons, List.map_nil]); first | done | rfl | (simp only [List.length_drop, List.length_take]; rfl)) ?_; (with_reducible refine (laws_heldCallS.calls k1 _ _ (rd_L2 l0 x5_1) x1_1 t285 _ ?side1 ?side2 A5.out).mono ?_); (case side1 => repeat (first | exact HR284_0.out | (with_reducible refine Kd.C_alloc ?_ _) | (with_reducible refine Kd.C_drewN ?_ _) | (with_reducible refine Kd.C_drew ?_))); (case side2 => exact HC284_0.out); rintro e w' ⟨rfl, ⟨nd, rfl⟩⟩; refine ⟨_, rfl, ?_⟩))
            go_roundg k1
            case measure => have := HK1.out; omega
            case rel => exact ⟨(t285), (wrap64 (x5_1 + 1)), (by first | rfl | (simp; done) | (simp [*]; done)), (by first | rfl | (simp; done) | (simp [*]; done)), H', ⟨by have := HK1.out; omega⟩, by repeat (first | exact Drawn0.refl _ | apply Drawn0.step)⟩
        · rw [if_neg c4] at H
          exact absurd H (by simp)
      · rw [if_neg c3] at H
        have c3b0 : decide (x5_1 < (l0.length : Int)) = false := decide_eq_false c3
        clear c3
        obtain rfl := Option.some.inj H
        go_wp2
        go_ret
        exact ⟨by first | rfl | (simp; done) | (simp [*]; done), by repeat (first | exact Drawn0.refl _ | apply Drawn0.step)⟩

/-! ### laws_FnExactFirstRounds: OURS: function 6 -/
def laws_FnExactFirstRounds.f (k : Nat) (a0 : Int) : Option Bool := ((spec_FirstRounds.f k a0).bind fun w => (impl_FirstRounds.f k a0).bind fun g => (laws_eqCallSS.f k g.1 w.1).bind fun q => if q = true ∧ g.2 = w.2 then (laws_markCallSS.f k g.1 1).bind fun mg => (laws_heldCallSS.f k mg.2 1).bind fun hq => if 0 ≤ hq ∧ hq = mg.1 then some true else none else none)
set_option maxHeartbeats 8000000 in
set_option maxRecDepth 100000 in
theorem laws_FnExactFirstRounds.calls (k : Nat) (a0 : Int) (r : Bool) (w : World) (h : laws_FnExactFirstRounds.f k a0 = some r) :
    Calls Try.prog 6 #[.int .i64 a0] w fun e w' => e = .returned (.bool r) ∧ Below w.heap.size w w' := by
  unfold laws_FnExactFirstRounds.f at h
  have hT_ := Option.bind_eq_some_iff.1 h
  clear h
  obtain ⟨⟨w_, wq⟩, h3, h⟩ := hT_
  try dsimp only at h
  have hT_ := Option.bind_eq_some_iff.1 h
  clear h
  obtain ⟨⟨g_, gq⟩, h4, h⟩ := hT_
  try dsimp only at h
  have hT_ := Option.bind_eq_some_iff.1 h
  clear h
  obtain ⟨q, h5, h⟩ := hT_
  try dsimp only at h
  by_cases hq : q = true ∧ gq = wq
  case neg => rw [if_neg hq] at h; cases h
  rw [if_pos hq] at h
  obtain ⟨rfl, rfl⟩ := hq
  have hT_ := Option.bind_eq_some_iff.1 h
  clear h
  obtain ⟨⟨mg, gm⟩, h8, h⟩ := hT_
  try dsimp only at h
  have hT_ := Option.bind_eq_some_iff.1 h
  clear h
  obtain ⟨hh, h9, h⟩ := hT_
  try dsimp only at h
  by_cases hh2 : 0 ≤ hh ∧ hh = mg
  case neg => rw [if_neg hh2] at h; cases h
  rw [if_pos hh2] at h
  obtain ⟨hm0, rfl⟩ := hh2
  obtain rfl := Option.some.inj h
  clear h
  try dsimp only at h3
  have H3 := Aside0.mk h3
  clear h3
  try dsimp only at h4
  have H4 := Aside0.mk h4
  clear h4
  try dsimp only at h5
  have H5 := Aside0.mk h5
  clear h5
  try dsimp only at h8
  have H8 := Aside0.mk h8
  clear h8
  try dsimp only at h9
  have H9 := Aside0.mk h9
  clear h9
  have hm1 : decide (hh < 0) = false := decide_eq_false (by omega)
  have hm2 : (hh != hh) = false := bne_self_eq_false hh
  have hg2 : (gq != gq) = false := bne_self_eq_false gq
  clear hm0
  go_enter Try.func6, Try.ntmps6
  have b0 := Aside0.mk (Below.refl w.heap.size w)
  go_wp2_with fail
  refine (spec_FirstRounds.calls k a0 _ _ _ H3.out).mono ?_
  rintro e w3 ⟨v_, rfl, ho_, hb_⟩
  have hb_w3 : Below w.heap.size w w3 := by first | exact hb_ | exact hb_.below
  clear hb_
  have c_w_w3 := Aside0.mk (below_step (b0.out) hb_w3)
  have hbb_w3 := Aside0.mk hb_w3
  clear hb_w3
  obtain ⟨AW, cW, rfl⟩ := Kd.N_slice ho_
  have HOW := Aside0.mk ho_
  clear ho_
  go_wp2_with fail
  refine (impl_FirstRounds.calls k a0 _ _ _ H4.out).mono ?_
  rintro e w5 ⟨v_, rfl, ho_, hb_⟩
  have hb_w5 : Below w3.heap.size w3 w5 := by first | exact hb_ | exact hb_.below
  clear hb_
  have c_w_w5 := Aside0.mk (below_step (c_w_w3.out) hb_w5)
  have c_w3_w5 := Aside0.mk (below_step ((Below.refl _ _)) hb_w5)
  have hbb_w5 := Aside0.mk hb_w5
  clear hb_w5
  obtain ⟨AG, cG, rfl⟩ := Kd.S_slice ho_
  have HOG := Aside0.mk ho_
  clear ho_
  go_wp2_with fail
  refine (laws_eqCallSS.calls k AG cG g_ AW cW w_ true _ (Kd.S_reads' (Kd.S_below HOG.out ((Below.refl _ _)))).2.2 (Kd.S_reads' HOG.out).2.1 (Kd.N_reads' (Kd.N_below HOW.out (c_w3_w5.out))).2.2 (Kd.N_reads' HOW.out).2.1 H5.out).mono ?_
  rintro e w6 ⟨rfl, hb_⟩
  have hb_w6 : Below w5.heap.size w5 w6 := by first | exact hb_ | exact hb_.below
  clear hb_
  have c_w_w6 := Aside0.mk (below_step (c_w_w5.out) hb_w6)
  have c_w3_w6 := Aside0.mk (below_step (c_w3_w5.out) hb_w6)
  have c_w5_w6 := Aside0.mk (below_step ((Below.refl _ _)) hb_w6)
  have hbb_w6 := Aside0.mk hb_w6
  clear hb_w6
  have HGm := Aside0.mk (Kd.S_below HOG.out (c_w5_w6.out))
  go_wp2_with fail
  refine (laws_markCallSS.calls k _ _ g_ 1 hh gm w3 _ (c_w3_w6.out) HGm.out H8.out).mono ?_
  rintro e w11 ⟨rfl, hx_, hb_, hk_⟩
  have HOM := Aside0.mk hx_
  have c_w3_w11 := Aside0.mk hb_
  have c_w_w11 := Aside0.mk (below_step c_w_w3.out hb_)
  clear hx_ hb_ hk_
  have hlm : gm.length = g_.length := (Kd.S_reads' HOM.out).1.symm
  have HLM := Aside0.mk hlm
  clear hlm
  have hH_ := laws_heldCallSS.calls k AG cG gm 1 hh w11 ((Kd.S_reads' (Kd.S_below HOM.out ((Below.refl _ _)))).2.2) (by rw [HLM.out]; exact (Kd.S_reads' HOM.out).2.1) H9.out
  rw [HLM.out] at hH_
  go_wp2_with fail
  refine (hH_).mono ?_
  rintro e w12 ⟨rfl, hb_⟩
  have hb_w12 : Below w11.heap.size w11 w12 := by first | exact hb_ | exact hb_.below
  clear hb_
  have c_w_w12 := Aside0.mk (below_step (c_w_w11.out) hb_w12)
  have c_w3_w12 := Aside0.mk (below_step (c_w3_w11.out) hb_w12)
  have c_w11_w12 := Aside0.mk (below_step ((Below.refl _ _)) hb_w12)
  have hbb_w12 := Aside0.mk hb_w12
  clear hb_w12
  clear hH_
  go_wp2_with fail
  refine (impl_FirstRounds.calls k a0 _ _ _ H4.out).mono ?_
  rintro e w14 ⟨v_, rfl, ho_, hb_⟩
  have hb_w14 : Below w12.heap.size w12 w14 := by first | exact hb_ | exact hb_.below
  clear hb_
  have c_w_w14 := Aside0.mk (below_step (c_w_w12.out) hb_w14)
  have c_w3_w14 := Aside0.mk (below_step (c_w3_w12.out) hb_w14)
  have c_w11_w14 := Aside0.mk (below_step (c_w11_w12.out) hb_w14)
  have hbb_w14 := Aside0.mk hb_w14
  clear hb_w14
  obtain ⟨AH, cH, rfl⟩ := Kd.S_slice ho_
  have HOH := Aside0.mk ho_
  clear ho_
  go_wp2_with fail
  refine (laws_eqCallSS.calls k AH cH g_ AW cW w_ true _ (Kd.S_reads' (Kd.S_below HOH.out ((Below.refl _ _)))).2.2 (Kd.S_reads' HOH.out).2.1 (Kd.N_reads' (Kd.N_below HOW.out (c_w3_w14.out))).2.2 (Kd.N_reads' HOW.out).2.1 H5.out).mono ?_
  rintro e w15 ⟨rfl, hb_⟩
  have hb_w15 : Below w14.heap.size w14 w15 := by first | exact hb_ | exact hb_.below
  clear hb_
  have c_w_w15 := Aside0.mk (below_step (c_w_w14.out) hb_w15)
  have c_w3_w15 := Aside0.mk (below_step (c_w3_w14.out) hb_w15)
  have c_w11_w15 := Aside0.mk (below_step (c_w11_w14.out) hb_w15)
  have c_w14_w15 := Aside0.mk (below_step ((Below.refl _ _)) hb_w15)
  have hbb_w15 := Aside0.mk hb_w15
  clear hb_w15
  have hH_ := laws_heldCallSS.calls k AG cG gm 1 hh w15 ((Kd.S_reads' (Kd.S_below HOM.out (c_w11_w15.out))).2.2) (by rw [HLM.out]; exact (Kd.S_reads' HOM.out).2.1) H9.out
  rw [HLM.out] at hH_
  go_wp2_with fail
  refine (hH_).mono ?_
  rintro e w16 ⟨rfl, hb_⟩
  have hb_w16 : Below w15.heap.size w15 w16 := by first | exact hb_ | exact hb_.below
  clear hb_
  have c_w_w16 := Aside0.mk (below_step (c_w_w15.out) hb_w16)
  have c_w3_w16 := Aside0.mk (below_step (c_w3_w15.out) hb_w16)
  have c_w11_w16 := Aside0.mk (below_step (c_w11_w15.out) hb_w16)
  have c_w14_w16 := Aside0.mk (below_step (c_w14_w15.out) hb_w16)
  have hbb_w16 := Aside0.mk hb_w16
  clear hb_w16
  clear hH_
  go_wp2_with fail
  go_ret
  exact ⟨rfl, c_w_w16.out⟩

/-- THE ONE PURE STATEMENT of laws_FnExactFirstRounds: yours. -/
def laws_FnExactFirstRounds.Pure : Prop := ∀ (a0 : Int), (Lit.int .i64 a0).wf = true → ∃ k, laws_FnExactFirstRounds.f k a0 = some true
theorem laws_FnExactFirstRounds.walk (P : laws_FnExactFirstRounds.Pure) (a0 : Int) (w : World) (w0 : (Lit.int .i64 a0).wf = true) :
    Calls Try.prog 6 #[.int .i64 a0] w fun e w' => e = .returned (.bool true) ∧ Below w.heap.size w w' := by
  obtain ⟨k, h⟩ := P a0 w0
  refine (laws_FnExactFirstRounds.calls k a0 true w h).mono ?_
  rintro e w' ⟨rfl, hd⟩
  exact ⟨rfl, hd⟩

end Go.Proofs.Ytnlmalicpckfbaa.PFnExactFirstRounds
