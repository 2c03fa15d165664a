-- Written by the session's mkprint.py over the kit's print.py (function texts marked OURS are the session's own).
import Derived.Test.YtgcpbaipdpchfaaPFnExactKnownByRoundsx0
import Derived.Test.YtgcpbaipdpchfaaHBase
import Derived.Test.YtgcpbaipdpchfaaPFnExactKnownByRoundsx13
import Derived.Test.YtgcpbaipdpchfaaPFnExactKnownByRoundsx21
import Derived.Test.YtgcpbaipdpchfaaPFnExactKnownByRoundsx22
import Derived.Test.YtgcpbaipdpchfaaPFnExactKnownByRoundsx23
import Derived.Test.YtgcpbaipdpchfaaPFnExactKnownByRoundsx24
import Derived.Test.YtgcpbaipdpchfaaPFnExactKnownByRoundsx3
import Derived.Test.YtgcpbaipdpchfaaPFnExactKnownByRoundsx4
import Derived.Test.YtgcpbaipdpchfaaPFnExactKnownByRoundsx5
import Derived.Test.YtgcpbaipdpchfaaPFnExactKnownByRoundsx7
import Derived.Test.YtgcpbaipdpchfaaWApart
import Derived.Test.YtgcpbaipdpchfaaWKept
import Derived.Test.YtgcpbaipdpchfaaWMore
namespace Go.Proofs.Ytgcpbaipdpchfaa.PFnExactKnownByRounds
open Go.RowKit Go.Proofs.YtgcpbaipdpchfaaW.PrintWords Go.Proofs.YtgcpbaipdpchfaaW.PrintLast Go.Proofs.YtgcpbaipdpchfaaW.PrintMore
attribute [local go_sem] max2_int min2_int max_two min_two max_three min_three max_four min_four   -- for this text's walks alone
set_option linter.unusedVariables false
set_option linter.unusedSimpArgs false

/-! ### laws_FnExactKnownByRounds: OURS: function 8 -/
def laws_FnExactKnownByRounds.f (k : Nat) (a0 : Int) (l1 : List (List S63)) : Option Bool := (laws_szCallSS.f k l1 1048576).bind fun left => if left < 0 then some true else (laws_toCallSS.f k l1).bind fun x => ((spec_KnownByRounds.f k a0 x).bind fun w => (impl_KnownByRounds.f k a0 x).bind fun g => (laws_eqIntSS.f k g.1 w.1).bind fun q => if q = true ∧ g.2 = w.2 then (laws_eqCallSS.f k x x).bind fun q2 => if q2 = true then (laws_markCallSS.f k x 1).bind fun mx => if 0 ≤ mx.1 then (laws_markIntSS.f k g.1 1).bind fun mg => (laws_heldIntSS.f k mg.2 1).bind fun hq => if 0 ≤ hq ∧ hq = mg.1 then some true else none else none else none else none)
set_option maxHeartbeats 8000000 in
set_option maxRecDepth 100000 in
theorem laws_FnExactKnownByRounds.calls (k : Nat) (a0 : Int) (A1 : Option Addr) (c1 : Nat) (l1 : List (List S63)) (r : Bool) (w : World) (hr1 : Kd.C (Kd.slice 63 k63) w A1 l1.length l1) (hc1 : l1.length ≤ c1) (h : laws_FnExactKnownByRounds.f k a0 l1 = some r) :
  Calls Try.prog 8 #[.int .i64 a0, .slice A1 l1.length c1] w fun e w' => e = .returned (.bool r) ∧ Below w.heap.size w w' := by
 unfold laws_FnExactKnownByRounds.f at h
 have hT_ := Option.bind_eq_some_iff.1 h
 clear h
 obtain ⟨left, h1, h⟩ := hT_
 try dsimp only at h
 have HC := Aside0.mk hr1
 have HC1 := Aside0.mk hc1
 have hz := laws_szCallSS.calls k A1 c1 l1 1048576 left w hr1 hc1 (by first | exact h1)
 clear hr1 hc1 h1
 by_cases hl : left < 0
 ·rw [if_pos hl] at h
  obtain rfl := Option.some.inj h
  clear h
  have hl1 : decide (left < 0) = true := decide_eq_true hl
  go_enter Try.func8, Try.ntmps8
  go_wp2_with fail
  refine hz.mono ?_
  rintro e w1 ⟨rfl, hb1⟩
  have hb1 := Aside0.mk hb1
  go_wp2_with fail
  go_ret
  exact ⟨rfl, by first | exact hb1.out | exact hb1.out.below⟩
 rw [if_neg hl] at h
 have hl1 : decide (left < 0) = false := decide_eq_false hl
 have hT_ := Option.bind_eq_some_iff.1 h
 clear h
 obtain ⟨x, h2, h⟩ := hT_
 try dsimp only at h
 have hT_ := Option.bind_eq_some_iff.1 h
 clear h
 obtain ⟨⟨w_, wq⟩, h3, h⟩ := hT_
 try dsimp only at h
 have hT_ := Option.bind_eq_some_iff.1 h
 clear h
 obtain ⟨⟨g_, gq⟩, h4, h⟩ := hT_
 try dsimp only at h
 have hT_ := Option.bind_eq_some_iff.1 h
 clear h
 obtain ⟨q, h5, h⟩ := hT_
 try dsimp only at h
 by_cases hq : q = true ∧ gq = wq
 case neg => rw [if_neg hq] at h; cases h
 rw [if_pos hq] at h
 obtain ⟨rfl, rfl⟩ := hq
 have hT_ := Option.bind_eq_some_iff.1 h
 clear h
 obtain ⟨q2, h6, h⟩ := hT_
 try dsimp only at h
 by_cases hq2 : q2 = true
 case neg => rw [if_neg hq2] at h; cases h
 rw [if_pos hq2] at h
 subst hq2
 have hT_ := Option.bind_eq_some_iff.1 h
 clear h
 obtain ⟨⟨mx, xm⟩, h7, h⟩ := hT_
 try dsimp only at h
 by_cases hm : 0 ≤ mx
 case neg => rw [if_neg hm] at h; cases h
 rw [if_pos hm] at h
 have hT_ := Option.bind_eq_some_iff.1 h
 clear h
 obtain ⟨⟨mg, gm⟩, h8, h⟩ := hT_
 try dsimp only at h
 have hT_ := Option.bind_eq_some_iff.1 h
 clear h
 obtain ⟨hh, h9, h⟩ := hT_
 try dsimp only at h
 by_cases hh2 : 0 ≤ hh ∧ hh = mg
 case neg => rw [if_neg hh2] at h; cases h
 rw [if_pos hh2] at h
 obtain ⟨hm0, rfl⟩ := hh2
 obtain rfl := Option.some.inj h
 clear h
 try dsimp only at h2
 have H2 := Aside0.mk h2
 clear h2
 try dsimp only at h3
 have H3 := Aside0.mk h3
 clear h3
 try dsimp only at h4
 have H4 := Aside0.mk h4
 clear h4
 try dsimp only at h5
 have H5 := Aside0.mk h5
 clear h5
 try dsimp only at h6
 have H6 := Aside0.mk h6
 clear h6
 try dsimp only at h7
 have H7 := Aside0.mk h7
 clear h7
 try dsimp only at h8
 have H8 := Aside0.mk h8
 clear h8
 try dsimp only at h9
 have H9 := Aside0.mk h9
 clear h9
 have hm1 : decide (hh < 0) = false := decide_eq_false (by omega)
 have hm2 : (hh != hh) = false := bne_self_eq_false hh
 have hg2 : (gq != gq) = false := bne_self_eq_false gq
 have hx1 : decide (mx < 0) = false := decide_eq_false (by omega)
 clear hl hm
 have HZ := Aside0.mk hz
 clear hz
 clear hm0
 go_enter Try.func8, Try.ntmps8
 have b0 := Aside0.mk (Below.refl w.heap.size w)
 go_wp2_with fail
 refine (HZ.out).mono ?_
 rintro e w1 ⟨rfl, hb_⟩
 have hb_w1 : Below w.heap.size w w1 := by first | exact hb_ | exact hb_.below
 clear hb_
 have c_w_w1 := Aside0.mk (below_step (b0.out) hb_w1)
 have hbb_w1 := Aside0.mk hb_w1
 clear hb_w1
 go_wp2_with fail
 refine (laws_toCallSS.calls k A1 c1 l1 x _ (Kd.C_below HC.out (c_w_w1.out)) HC1.out H2.out).mono ?_
 rintro e w2 ⟨v_, rfl, ho_, hb_⟩
 have hb_w2 : Below w1.heap.size w1 w2 := by first | exact hb_ | exact hb_.below
 clear hb_
 have c_w_w2 := Aside0.mk (below_step (c_w_w1.out) hb_w2)
 have hbb_w2 := Aside0.mk hb_w2
 clear hb_w2
 obtain ⟨AA, cA, rfl⟩ := Kd.S_slice ho_
 have HOA := Aside0.mk ho_
 clear ho_
 go_wp2_with fail
 refine (spec_KnownByRounds.calls k a0 AA cA x _ _ _ (Kd.S_reads' (Kd.S_below HOA.out ((Below.refl _ _)))).2.2 (Kd.S_reads' HOA.out).2.1 H3.out).mono ?_
 rintro e w3 ⟨v_, rfl, ho_, hb_⟩
 have hb_w3 : Below w2.heap.size w2 w3 := by first | exact hb_ | exact hb_.below
 clear hb_
 have c_w_w3 := Aside0.mk (below_step (c_w_w2.out) hb_w3)
 have c_w2_w3 := Aside0.mk (below_step ((Below.refl _ _)) hb_w3)
 have hbb_w3 := Aside0.mk hb_w3
 clear hb_w3
 obtain ⟨AW, cW, rfl⟩ := Kd.S_slice ho_
 have HOW := Aside0.mk ho_
 clear ho_
 go_wp2_with fail
 refine (laws_toCallSS.calls k A1 c1 l1 x _ (Kd.C_below HC.out (c_w_w3.out)) HC1.out H2.out).mono ?_
 rintro e w4 ⟨v_, rfl, ho_, hb_⟩
 have hb_w4 : Below w3.heap.size w3 w4 := by first | exact hb_ | exact hb_.below
 clear hb_
 have c_w_w4 := Aside0.mk (below_step (c_w_w3.out) hb_w4)
 have c_w3_w4 := Aside0.mk (below_step ((Below.refl _ _)) hb_w4)
 have hbb_w4 := Aside0.mk hb_w4
 clear hb_w4
 obtain ⟨AX, cX, rfl⟩ := Kd.S_slice ho_
 have HOX := Aside0.mk ho_
 clear ho_
 go_wp2_with fail
 refine (impl_KnownByRounds.calls k a0 AX cX x _ _ _ (Kd.S_reads' (Kd.S_below HOX.out ((Below.refl _ _)))).2.2 (Kd.S_reads' HOX.out).2.1 H4.out).mono ?_
 rintro e w5 ⟨v_, rfl, ho_, hb_⟩
 have hb_w5 : Below w4.heap.size w4 w5 := by first | exact hb_ | exact hb_.below
 clear hb_
 have c_w_w5 := Aside0.mk (below_step (c_w_w4.out) hb_w5)
 have c_w3_w5 := Aside0.mk (below_step (c_w3_w4.out) hb_w5)
 have c_w4_w5 := Aside0.mk (below_step ((Below.refl _ _)) hb_w5)
 have hbb_w5 := Aside0.mk hb_w5
 clear hb_w5
 obtain ⟨AG, cG, rfl⟩ := Kd.S_slice ho_
 have HOG := Aside0.mk ho_
 clear ho_
 go_wp2_with fail
 refine (laws_eqIntSS.calls k AG cG g_ AW cW w_ true _ (Kd.S_reads' (Kd.S_below HOG.out ((Below.refl _ _)))).2.2 (Kd.S_reads' HOG.out).2.1 (Kd.S_reads' (Kd.S_below HOW.out (c_w3_w5.out))).2.2 (Kd.S_reads' HOW.out).2.1 H5.out).mono ?_
 rintro e w6 ⟨rfl, hb_⟩
 have hb_w6 : Below w5.heap.size w5 w6 := by first | exact hb_ | exact hb_.below
 clear hb_
 have c_w_w6 := Aside0.mk (below_step (c_w_w5.out) hb_w6)
 have c_w3_w6 := Aside0.mk (below_step (c_w3_w5.out) hb_w6)
 have c_w4_w6 := Aside0.mk (below_step (c_w4_w5.out) hb_w6)
 have c_w5_w6 := Aside0.mk (below_step ((Below.refl _ _)) hb_w6)
 have hbb_w6 := Aside0.mk hb_w6
 clear hb_w6
 go_wp2_with fail
 refine (laws_toCallSS.calls k A1 c1 l1 x _ (Kd.C_below HC.out (c_w_w6.out)) HC1.out H2.out).mono ?_
 rintro e w7 ⟨v_, rfl, ho_, hb_⟩
 have hb_w7 : Below w6.heap.size w6 w7 := by first | exact hb_ | exact hb_.below
 clear hb_
 have c_w_w7 := Aside0.mk (below_step (c_w_w6.out) hb_w7)
 have c_w3_w7 := Aside0.mk (below_step (c_w3_w6.out) hb_w7)
 have c_w4_w7 := Aside0.mk (below_step (c_w4_w6.out) hb_w7)
 have c_w5_w7 := Aside0.mk (below_step (c_w5_w6.out) hb_w7)
 have hbb_w7 := Aside0.mk hb_w7
 clear hb_w7
 obtain ⟨AY, cY, rfl⟩ := Kd.S_slice ho_
 have HOY := Aside0.mk ho_
 clear ho_
 go_wp2_with fail
 refine (laws_eqCallSS.calls k AX cX x AY cY x true _ (Kd.S_reads' (Kd.S_below HOX.out (c_w4_w7.out))).2.2 (Kd.S_reads' HOX.out).2.1 (Kd.S_reads' (Kd.S_below HOY.out ((Below.refl _ _)))).2.2 (Kd.S_reads' HOY.out).2.1 H6.out).mono ?_
 rintro e w8 ⟨rfl, hb_⟩
 have hb_w8 : Below w7.heap.size w7 w8 := by first | exact hb_ | exact hb_.below
 clear hb_
 have c_w_w8 := Aside0.mk (below_step (c_w_w7.out) hb_w8)
 have c_w3_w8 := Aside0.mk (below_step (c_w3_w7.out) hb_w8)
 have c_w4_w8 := Aside0.mk (below_step (c_w4_w7.out) hb_w8)
 have c_w5_w8 := Aside0.mk (below_step (c_w5_w7.out) hb_w8)
 have c_w7_w8 := Aside0.mk (below_step ((Below.refl _ _)) hb_w8)
 have hbb_w8 := Aside0.mk hb_w8
 clear hb_w8
 have HX8 := Aside0.mk (Kd.S_below (Kd.S_bound HOX.out) (c_w4_w8.out))
 have HG8 := Aside0.mk (Kd.S_below (Kd.S_bound HOG.out) (c_w5_w8.out))
 have hle_ : w4.heap.size ≤ w5.heap.size := (hbb_w5.out).size
 go_wp2_with fail
 refine (laws_markCallSS.calls k _ _ x 1 mx xm w3 _ (c_w3_w8.out) HX8.out H7.out).mono ?_
 rintro e w9 ⟨rfl, hx_, hb_, hk_⟩
 have c_w3_w9 := Aside0.mk hb_
 have c_w_w9 := Aside0.mk (below_step c_w_w3.out hb_)
 have HO9 := Aside0.mk (Kd.S_kept HG8.out hk_ (fun k_ hk hs => by have := hk.2.1; have := hs.2.2.1; omega))
 clear hx_ hb_ hk_ hle_
 have HO9G := HO9
 obtain HOGG := HO9
 go_wp2_with fail
 refine (laws_eqIntSS.calls k AG cG g_ AW cW w_ true _ (Kd.S_reads' (Kd.S_below HO9.out ((Below.refl _ _)))).2.2 (Kd.S_reads' HO9.out).2.1 (Kd.S_reads' (Kd.S_below HOW.out (c_w3_w9.out))).2.2 (Kd.S_reads' HOW.out).2.1 H5.out).mono ?_
 rintro e w10 ⟨rfl, hb_⟩
 have hb_w10 : Below w9.heap.size w9 w10 := by first | exact hb_ | exact hb_.below
 clear hb_
 have c_w_w10 := Aside0.mk (below_step (c_w_w9.out) hb_w10)
 have c_w3_w10 := Aside0.mk (below_step (c_w3_w9.out) hb_w10)
 have c_w9_w10 := Aside0.mk (below_step ((Below.refl _ _)) hb_w10)
 have hbb_w10 := Aside0.mk hb_w10
 clear hb_w10
 have HGm := Aside0.mk (Kd.S_lower (Kd.S_below HO9.out (c_w9_w10.out)) (base' := w3.heap.size) ((hbb_w4.out).size))
 go_wp2_with fail
 refine (laws_markIntSS.calls k _ _ g_ 1 hh gm w3 _ (c_w3_w10.out) HGm.out H8.out).mono ?_
 rintro e w11 ⟨rfl, hx_, hb_, hk_⟩
 have HOM := Aside0.mk hx_
 have c_w3_w11 := Aside0.mk hb_
 have c_w_w11 := Aside0.mk (below_step c_w_w3.out hb_)
 clear hx_ hb_ hk_
 have hlm : gm.length = g_.length := (Kd.S_reads' HOM.out).1.symm
 have HLM := Aside0.mk hlm
 clear hlm
 have hH_ := laws_heldIntSS.calls k AG cG gm 1 hh w11 ((Kd.S_reads' (Kd.S_below HOM.out ((Below.refl _ _)))).2.2) (by rw [HLM.out]; exact (Kd.S_reads' HOM.out).2.1) H9.out
 rw [HLM.out] at hH_
 go_wp2_with fail
 refine (hH_).mono ?_
 rintro e w12 ⟨rfl, hb_⟩
 have hb_w12 : Below w11.heap.size w11 w12 := by first | exact hb_ | exact hb_.below
 clear hb_
 have c_w_w12 := Aside0.mk (below_step (c_w_w11.out) hb_w12)
 have c_w3_w12 := Aside0.mk (below_step (c_w3_w11.out) hb_w12)
 have c_w11_w12 := Aside0.mk (below_step ((Below.refl _ _)) hb_w12)
 have hbb_w12 := Aside0.mk hb_w12
 clear hb_w12
 clear hH_
 go_wp2_with fail
 refine (laws_toCallSS.calls k A1 c1 l1 x _ (Kd.C_below HC.out (c_w_w12.out)) HC1.out H2.out).mono ?_
 rintro e w13 ⟨v_, rfl, ho_, hb_⟩
 have hb_w13 : Below w12.heap.size w12 w13 := by first | exact hb_ | exact hb_.below
 clear hb_
 have c_w_w13 := Aside0.mk (below_step (c_w_w12.out) hb_w13)
 have c_w3_w13 := Aside0.mk (below_step (c_w3_w12.out) hb_w13)
 have c_w11_w13 := Aside0.mk (below_step (c_w11_w12.out) hb_w13)
 have hbb_w13 := Aside0.mk hb_w13
 clear hb_w13
 obtain ⟨AZ, cZ, rfl⟩ := Kd.S_slice ho_
 have HOZ := Aside0.mk ho_
 clear ho_
 go_wp2_with fail
 refine (impl_KnownByRounds.calls k a0 AZ cZ x _ _ _ (Kd.S_reads' (Kd.S_below HOZ.out ((Below.refl _ _)))).2.2 (Kd.S_reads' HOZ.out).2.1 H4.out).mono ?_
 rintro e w14 ⟨v_, rfl, ho_, hb_⟩
 have hb_w14 : Below w13.heap.size w13 w14 := by first | exact hb_ | exact hb_.below
 clear hb_
 have c_w_w14 := Aside0.mk (below_step (c_w_w13.out) hb_w14)
 have c_w3_w14 := Aside0.mk (below_step (c_w3_w13.out) hb_w14)
 have c_w11_w14 := Aside0.mk (below_step (c_w11_w13.out) hb_w14)
 have c_w13_w14 := Aside0.mk (below_step ((Below.refl _ _)) hb_w14)
 have hbb_w14 := Aside0.mk hb_w14
 clear hb_w14
 obtain ⟨AH, cH, rfl⟩ := Kd.S_slice ho_
 have HOH := Aside0.mk ho_
 clear ho_
 go_wp2_with fail
 refine (laws_eqIntSS.calls k AH cH g_ AW cW w_ true _ (Kd.S_reads' (Kd.S_below HOH.out ((Below.refl _ _)))).2.2 (Kd.S_reads' HOH.out).2.1 (Kd.S_reads' (Kd.S_below HOW.out (c_w3_w14.out))).2.2 (Kd.S_reads' HOW.out).2.1 H5.out).mono ?_
 rintro e w15 ⟨rfl, hb_⟩
 have hb_w15 : Below w14.heap.size w14 w15 := by first | exact hb_ | exact hb_.below
 clear hb_
 have c_w_w15 := Aside0.mk (below_step (c_w_w14.out) hb_w15)
 have c_w3_w15 := Aside0.mk (below_step (c_w3_w14.out) hb_w15)
 have c_w11_w15 := Aside0.mk (below_step (c_w11_w14.out) hb_w15)
 have c_w13_w15 := Aside0.mk (below_step (c_w13_w14.out) hb_w15)
 have c_w14_w15 := Aside0.mk (below_step ((Below.refl _ _)) hb_w15)
 have hbb_w15 := Aside0.mk hb_w15
 clear hb_w15
 have hH_ := laws_heldIntSS.calls k AG cG gm 1 hh w15 ((Kd.S_reads' (Kd.S_below HOM.out (c_w11_w15.out))).2.2) (by rw [HLM.out]; exact (Kd.S_reads' HOM.out).2.1) H9.out
 rw [HLM.out] at hH_
 go_wp2_with fail
 refine (hH_).mono ?_
 rintro e w16 ⟨rfl, hb_⟩
 have hb_w16 : Below w15.heap.size w15 w16 := by first | exact hb_ | exact hb_.below
 clear hb_
 have c_w_w16 := Aside0.mk (below_step (c_w_w15.out) hb_w16)
 have c_w3_w16 := Aside0.mk (below_step (c_w3_w15.out) hb_w16)
 have c_w11_w16 := Aside0.mk (below_step (c_w11_w15.out) hb_w16)
 have c_w13_w16 := Aside0.mk (below_step (c_w13_w15.out) hb_w16)
 have c_w14_w16 := Aside0.mk (below_step (c_w14_w15.out) hb_w16)
 have hbb_w16 := Aside0.mk hb_w16
 clear hb_w16
 clear hH_
 go_wp2_with fail
 go_ret
 exact ⟨rfl, c_w_w16.out⟩


end Go.Proofs.Ytgcpbaipdpchfaa.PFnExactKnownByRounds
