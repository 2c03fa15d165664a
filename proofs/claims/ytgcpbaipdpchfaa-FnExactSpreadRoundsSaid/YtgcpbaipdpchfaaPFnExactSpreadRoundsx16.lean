-- Written by the session's mkprint.py over the kit's print.py (function texts marked OURS are the session's own).
import Derived.Test.YtgcpbaipdpchfaaPFnExactSpreadRoundsx0
import Derived.Test.YtgcpbaipdpchfaaHAdd
import Derived.Test.YtgcpbaipdpchfaaHBase
import Derived.Test.YtgcpbaipdpchfaaHGoes
import Derived.Test.YtgcpbaipdpchfaaPFnExactSpreadRoundsx15
import Derived.Test.YtgcpbaipdpchfaaWApart
import Derived.Test.YtgcpbaipdpchfaaWFoot
import Derived.Test.YtgcpbaipdpchfaaWKept
import Derived.Test.YtgcpbaipdpchfaaWMore
namespace Go.Proofs.Ytgcpbaipdpchfaa.PFnExactSpreadRounds
open Go.RowKit Go.Proofs.YtgcpbaipdpchfaaW.PrintWords Go.Proofs.YtgcpbaipdpchfaaW.PrintLast Go.Proofs.YtgcpbaipdpchfaaW.PrintMore
attribute [local go_sem] max2_int min2_int max_two min_two max_three min_three max_four min_four   -- for this text's walks alone
set_option linter.unusedVariables false
set_option linter.unusedSimpArgs false

/-! ### impl_spread_roundsLit1: function 112 -/
def impl_spread_roundsLit1.f (a0_0 : Int) (a0_1 : Int) (a1 : Int) : Option (Bool) := if 0 ≤ a0_0 then (if 0 ≤ a0_1 then (some ((Go.bits .and .u16 (shr .u16 a1 a0_0) 1) == (Go.bits .and .u16 (shr .u16 a1 a0_1) 1))) else (none)) else (none)
set_option maxHeartbeats 8000000 in
set_option maxRecDepth 100000 in
theorem impl_spread_roundsLit1.calls (a0_0 : Int) (a0_1 : Int) (a1 : Int) (r : Bool) (w : World) (h : impl_spread_roundsLit1.f a0_0 a0_1 a1 = some r) (g0_ : Nat) (hg0_ : w.cell? ⟨g0_, 0, none⟩ = some (.int .u16 a1)) :
    Calls Try.prog 112 #[.agg #[.int .i64 a0_0, .int .i64 a0_1], .pointer (some ⟨g0_, 0, none⟩)] w fun e w' => e = .returned (.bool r) ∧ Below w.heap.size w w' := by
  have HG0_ := Aside0.mk hg0_
  have hu54 := Try.underlying54
  have HB := Aside0.mk (Below.refl w.heap.size w)
  have H : (if 0 ≤ a0_0 then (if 0 ≤ a0_1 then (some ((Go.bits .and .u16 (shr .u16 a1 a0_0) 1) == (Go.bits .and .u16 (shr .u16 a1 a0_1) 1))) else (none)) else (none)) = some r := h
  clear h
  by_cases c3 : 0 ≤ a0_0
  · rw [if_pos c3] at H
    have c3b0 := eq_true c3
    have c3b1 : decide (0 ≤ a0_0) = true := decide_eq_true c3
    clear c3
    obtain ⟨ji4, hji4⟩ : ∃ j_ : Int, (shr .u16 a1 a0_0) = j_ := ⟨_, rfl⟩
    replace H : (if 0 ≤ a0_1 then (some ((Go.bits .and .u16 (ji4) 1) == (Go.bits .and .u16 (shr .u16 a1 a0_1) 1))) else (none)) = some r := by first | (rw [hji4] at H; exact H) | (simp only [hji4] at H ⊢; exact H)
    have hji4_ : (a1 / 2 ^ min a0_0.toNat 16) = ji4 := hji4
    have hji4z : a0_0 ≤ 16 → (a1 / 2 ^ a0_0.toNat) = ji4 := shr_small hji4
    by_cases c5 : 0 ≤ a0_1
    · rw [if_pos c5] at H
      have c5b0 := eq_true c5
      have c5b1 : decide (0 ≤ a0_1) = true := decide_eq_true c5
      clear c5
      obtain ⟨ji6, hji6⟩ : ∃ j_ : Int, (shr .u16 a1 a0_1) = j_ := ⟨_, rfl⟩
      replace H : (some ((Go.bits .and .u16 (ji4) 1) == (Go.bits .and .u16 (ji6) 1))) = some r := by first | (rw [hji6] at H; exact H) | (simp only [hji6] at H ⊢; exact H)
      have hji6_ : (a1 / 2 ^ min a0_1.toNat 16) = ji6 := hji6
      have hji6z : a0_1 ≤ 16 → (a1 / 2 ^ a0_1.toNat) = ji6 := shr_small hji6
      obtain rfl := Option.some.inj H
      go_enter Try.func112, Try.ntmps112
      go_wp2_with (first | ((with_reducible refine gate_dst (N := 2) rfl ?_); refine box_event ?hg (N := 2) ?hd (cs := #[.int .i64 a0_0, .int .i64 a0_1]) (t := 54) ?hr ?_; (case hd => rfl); (case hg => rfl); (case hr => first | (go_simp; done) | (go_simp; rfl)); intro gb214 hg w7 hbox hb; have n0_ := Aside0.mk (below_step (by repeat (first | (with_reducible first | exact HB.out | apply below_alloc | apply pw_below_drewN | apply below_drew1) | exact HB.out)) hb); have n1_ := Aside0.mk (hbox); have n2_ := Aside0.mk ((by rw [hg]; exact (below_size (by repeat (first | (with_reducible first | exact HB.out | apply below_alloc | apply pw_below_drewN | apply below_drew1) | exact HB.out))) : w.heap.size ≤ gb214)); have n3_ := Aside0.mk ((by rw [hg]; exact (below_size (by repeat (first | (with_reducible first | exact HB.out | apply below_alloc | apply pw_below_drewN | apply below_drew1) | exact HB.out))) : w.heap.size ≤ gb214)); clear HB; have HB := n0_; have BK214 := n1_; have GW214 := n2_; have GE214 := n3_; clear n0_ n1_ n2_ n3_; clear hb hbox hg; have hcz8_0 : w7.cell? ⟨gb214, 0, none⟩ = some (.int .i64 a0_0) := (blk_cell BK214.out 0).trans rfl; have hcz8_1 : w7.cell? ⟨gb214, 1, none⟩ = some (.int .i64 a0_1) := (blk_cell BK214.out 1).trans rfl; have hfz8_0 := blk_frozen BK214.out 0; have hfz8_1 := blk_frozen BK214.out 1))
      have hq0_ := Go.Proofs.Ytgcpbaipdpchfaa.H.cell_b HB.out HG0_.out
      repeat (go_quiet (first | ((with_reducible refine gate_dst (N := 2) rfl ?_); refine box_event ?hg (N := 2) ?hd (cs := #[.int .i64 a0_0, .int .i64 a0_1]) (t := 54) ?hr ?_; (case hd => rfl); (case hg => rfl); (case hr => first | (go_simp; done) | (go_simp; rfl)); intro gb214 hg w7 hbox hb; have n0_ := Aside0.mk (below_step (by repeat (first | (with_reducible first | exact HB.out | apply below_alloc | apply pw_below_drewN | apply below_drew1) | exact HB.out)) hb); have n1_ := Aside0.mk (hbox); have n2_ := Aside0.mk ((by rw [hg]; exact (below_size (by repeat (first | (with_reducible first | exact HB.out | apply below_alloc | apply pw_below_drewN | apply below_drew1) | exact HB.out))) : w.heap.size ≤ gb214)); have n3_ := Aside0.mk ((by rw [hg]; exact (below_size (by repeat (first | (with_reducible first | exact HB.out | apply below_alloc | apply pw_below_drewN | apply below_drew1) | exact HB.out))) : w.heap.size ≤ gb214)); clear HB; have HB := n0_; have BK214 := n1_; have GW214 := n2_; have GE214 := n3_; clear n0_ n1_ n2_ n3_; clear hb hbox hg; have hcz8_0 : w7.cell? ⟨gb214, 0, none⟩ = some (.int .i64 a0_0) := (blk_cell BK214.out 0).trans rfl; have hcz8_1 : w7.cell? ⟨gb214, 1, none⟩ = some (.int .i64 a0_1) := (blk_cell BK214.out 1).trans rfl; have hfz8_0 := blk_frozen BK214.out 0; have hfz8_1 := blk_frozen BK214.out 1)); try go_wp2_with (first | ((with_reducible refine gate_dst (N := 2) rfl ?_); refine box_event ?hg (N := 2) ?hd (cs := #[.int .i64 a0_0, .int .i64 a0_1]) (t := 54) ?hr ?_; (case hd => rfl); (case hg => rfl); (case hr => first | (go_simp; done) | (go_simp; rfl)); intro gb214 hg w7 hbox hb; have n0_ := Aside0.mk (below_step (by repeat (first | (with_reducible first | exact HB.out | apply below_alloc | apply pw_below_drewN | apply below_drew1) | exact HB.out)) hb); have n1_ := Aside0.mk (hbox); have n2_ := Aside0.mk ((by rw [hg]; exact (below_size (by repeat (first | (with_reducible first | exact HB.out | apply below_alloc | apply pw_below_drewN | apply below_drew1) | exact HB.out))) : w.heap.size ≤ gb214)); have n3_ := Aside0.mk ((by rw [hg]; exact (below_size (by repeat (first | (with_reducible first | exact HB.out | apply below_alloc | apply pw_below_drewN | apply below_drew1) | exact HB.out))) : w.heap.size ≤ gb214)); clear HB; have HB := n0_; have BK214 := n1_; have GW214 := n2_; have GE214 := n3_; clear n0_ n1_ n2_ n3_; clear hb hbox hg; have hcz8_0 : w7.cell? ⟨gb214, 0, none⟩ = some (.int .i64 a0_0) := (blk_cell BK214.out 0).trans rfl; have hcz8_1 : w7.cell? ⟨gb214, 1, none⟩ = some (.int .i64 a0_1) := (blk_cell BK214.out 1).trans rfl; have hfz8_0 := blk_frozen BK214.out 0; have hfz8_1 := blk_frozen BK214.out 1)))
      go_ret
      exact ⟨by first | rfl | (simp [errW_none, errW_some] <;> rfl) | (simp only [← hji4, ← hji6]; first | rfl | (simp [errW_none, errW_some] <;> rfl)) | (simp [*, errW_none, errW_some] <;> rfl), by repeat (first | (with_reducible first | exact HB.out | apply below_alloc | apply pw_below_drewN | apply below_drew1 | refine below_set ?_ GE214.out) | exact HB.out)⟩
    · rw [if_neg c5] at H
      exact absurd H (by simp)
  · rw [if_neg c3] at H
    exact absurd H (by simp)

/-! ### impl_matchingsLit1: OURS: function 120 -/
-- litname
mutual
def impl_matchingsLit1.l0 : Nat → List (S54) → Int → List (List (S54)) → List (S54) → Int → Int → Option (List (List (S54)))
 | 0, _, _, _, _, _, _ => none
 | k + 1, x0, x2, x3, x4, x5, x9 => if x9 < (x4.length : Int) then (if 0 ≤ x9 then (if 0 ≤ ((rd_T54 x4 x9).f0) then (if 0 ≤ ((rd_T54 x4 x9).f1) then (if (Go.bits .and .u16 x2 (Go.bits .or .u16 (shl .u16 1 ((rd_T54 x4 x9).f0)) (shl .u16 1 ((rd_T54 x4 x9).f1)))) = 0 then ((impl_Call.f x0).bind fun t264 => ((some (([(⟨(rd_T54 x4 x9).f0, (rd_T54 x4 x9).f1⟩ : S54)] : List (S54)) : List (S54))).bind fun y268 => (if t264.length + y268.length < 8796093022208 then ((impl_matchingsLit1.f k (t264 ++ y268) (wrap64 (x9 + 1)) (Go.bits .or .u16 x2 (Go.bits .or .u16 (shl .u16 1 ((rd_T54 x4 x9).f0)) (shl .u16 1 ((rd_T54 x4 x9).f1)))) x3 x4 x5).bind fun o_ => (impl_matchingsLit1.l0 k x0 x2 o_ x4 x5 (wrap64 (x9 + 1)))) else (none)))) else (impl_matchingsLit1.l0 k x0 x2 x3 x4 x5 (wrap64 (x9 + 1)))) else (none)) else (none)) else (none)) else (some x3)
def impl_matchingsLit1.f : Nat → List (S54) → Int → Int → List (List (S54)) → List (S54) → Int → Option (List (List (S54)))
 | 0, _, _, _, _, _, _ => none
 | k + 1, l0, a1, a2, a3, l4, a5 => if a3.length < 1048576 then (impl_matchingsLit1.l0 k l0 a2 (a3 ++ [l0]) l4 a5 a1) else none
end
theorem impl_matchingsLit1.mono_l : ∀ k, (∀ y0 y1 y2 y3 y4 y5, LeO (impl_matchingsLit1.f k y0 y1 y2 y3 y4 y5) (impl_matchingsLit1.f (k + 1) y0 y1 y2 y3 y4 y5)) ∧ (∀ y0 y1 y2 y3 y4 y5, LeO (impl_matchingsLit1.l0 k y0 y1 y2 y3 y4 y5) (impl_matchingsLit1.l0 (k + 1) y0 y1 y2 y3 y4 y5))
 | 0 => ⟨fun _ _ _ _ _ _ r h => by simp [impl_matchingsLit1.f] at h, fun _ _ _ _ _ _ r h => by simp [impl_matchingsLit1.l0] at h⟩
 | k + 1 => by
  obtain ⟨ih0, ih1⟩ := impl_matchingsLit1.mono_l k
  refine ⟨?_, ?_⟩
  ·intro y0 y1 y2 y3 y4 y5
   unfold impl_matchingsLit1.f
   repeat' first
   | (with_reducible exact ih0 _ _ _ _ _ _)
   | (with_reducible exact ih1 _ _ _ _ _ _)
   | (with_reducible exact LeO.refl _)
   | (with_reducible exact LeO.none _)
   | (with_reducible refine LeO.ite ?_ ?_)
   | (with_reducible refine LeO.bind ?_ (fun _ => ?_))
   | exact ih0 _ _ _ _ _ _
   | exact ih1 _ _ _ _ _ _
   | exact LeO.none _
   | refine LeO.ite ?_ ?_
   | refine LeO.bind ?_ (fun _ => ?_)
  ·intro y0 y1 y2 y3 y4 y5
   unfold impl_matchingsLit1.l0
   repeat' first
   | (with_reducible exact ih0 _ _ _ _ _ _)
   | (with_reducible exact ih1 _ _ _ _ _ _)
   | (with_reducible exact LeO.refl _)
   | (with_reducible exact LeO.none _)
   | (with_reducible refine LeO.ite ?_ ?_)
   | (with_reducible refine LeO.bind ?_ (fun _ => ?_))
   | exact ih0 _ _ _ _ _ _
   | exact ih1 _ _ _ _ _ _
   | exact LeO.none _
   | refine LeO.ite ?_ ?_
   | refine LeO.bind ?_ (fun _ => ?_)
theorem impl_matchingsLit1.mono : ∀ a0 a1 a2 a3 a4 a5 k, LeO (impl_matchingsLit1.f k a0 a1 a2 a3 a4 a5) (impl_matchingsLit1.f (k + 1) a0 a1 a2 a3 a4 a5) := by
 intro a0 a1 a2 a3 a4 a5 k
 obtain ⟨ih0, ih1⟩ := impl_matchingsLit1.mono_l k
 exact ih0 a0 a1 a2 a3 a4 a5
def impl_matchingsLit1.T4 : Bool × List (List Nat × List Nat) := (true, [([], []), ([], []), ([0, 1], [0, 1]), ([2], [2]), ([3], [3]), ([4], [4]), ([], []), ([], []), ([6, 7], [6, 7]), ([8], [8]), ([9], [9]), ([10], [10]), ([5, 11], [5, 11]), ([12, 0, 1, 2, 3, 4, 5, 6, 7, 8, 9, 10, 11, 12], [12])])
def impl_matchingsLit1.B4 : List Nat := [0, 0, 3, 7, 15, 31, 0, 0, 192, 448, 960, 1984, 4095, 8191]
theorem impl_matchingsLit1.tab4 : rtab .any (opsOf Try.f120 4) = impl_matchingsLit1.T4 := by kernel_rfl
theorem impl_matchingsLit1.bits4 : waitsOk impl_matchingsLit1.T4.2 impl_matchingsLit1.B4 = true := by kernel_rfl
def impl_matchingsLit1.T6 : Bool × List (List Nat × List Nat) := (true, [([], []), ([], []), ([1], [1]), ([], []), ([], []), ([3, 4], [3, 4]), ([5], [5]), ([6], [6]), ([2, 7, 2], [2, 7]), ([], []), ([9], [9]), ([], []), ([], []), ([11, 12], [11, 12]), ([0, 8, 10, 13, 8], [0, 8, 10, 13])])
def impl_matchingsLit1.B6 : List Nat := [0, 0, 2, 0, 0, 24, 56, 120, 254, 0, 512, 0, 0, 6144, 16383]
theorem impl_matchingsLit1.tab6 : rtab .any (opsOf Try.f120 6) = impl_matchingsLit1.T6 := by kernel_rfl
theorem impl_matchingsLit1.bits6 : waitsOk impl_matchingsLit1.T6.2 impl_matchingsLit1.B6 = true := by kernel_rfl
set_option maxHeartbeats 8000000 in
set_option maxRecDepth 100000 in
theorem impl_matchingsLit1.calls (k : Nat) : ∀ (B_ : Nat) (A0 : Option Addr) (c0 : Nat) (l0 : List (S54)) (a1 : Int) (a2 : Int) (v : Value) (a3 : List (List (S54))) (A4 : Option Addr) (c4 : Nat) (l4 : List (S54)) (a5 : Int) (r_ : List (List (S54))) (w_ : World) (g0_ g1_ g2_ : Nat) (hB_ : B_ ≤ w_.heap.size) (hg0 : w_.heap[g0_]? = some (.cells #[v] 22 (0, 0))) (hO : Kd.S (Kd.slice 54 k54) 31 w_ B_ (fun k => k ≠ g0_ ∧ some k ≠ (Value.slice A0 l0.length c0).ownBlock) v a3) (hL : Kd.R k54 54 w_ B_ (fun k => k ≠ g0_ ∧ some k ≠ v.ownBlock) (.slice A0 l0.length c0) l0) (h4 : Kd.F k54 w_ (fun k => k ≠ g0_ ∧ v.ownBlock ≠ some k) A4 l4.length l4) (hc4 : l4.length ≤ c4) (hn1 : g1_ ≠ g0_ ∧ v.ownBlock ≠ some g1_) (hn2 : g2_ ≠ g0_ ∧ v.ownBlock ≠ some g2_) (hg1_ : w_.cell? ⟨g1_, 0, none⟩ = some (.slice A4 l4.length c4)) (hg2_ : w_.cell? ⟨g2_, 0, none⟩ = some (.func (.func 120) #[] #[.pointer (some ⟨g0_, 0, none⟩), .pointer (some ⟨g1_, 0, none⟩), .pointer (some ⟨g2_, 0, none⟩)])) (h : impl_matchingsLit1.f k l0 a1 a2 a3 l4 a5 = some r_),
    Calls Try.prog 120 #[.slice A0 l0.length c0, .int .i64 a1, .int .u16 a2, .pointer (some ⟨g0_, 0, none⟩), .pointer (some ⟨g1_, 0, none⟩), .pointer (some ⟨g2_, 0, none⟩)] w_ fun e w' => e = .returned (.tuple #[]) ∧ ∃ v', w'.heap[g0_]? = some (.cells #[v'] 22 (0, 0)) ∧ Kd.S (Kd.slice 54 k54) 31 w' B_ (fun k => k ≠ g0_) v' r_ ∧ (v'.ownBlock = v.ownBlock ∨ ∃ b, v'.ownBlock = some b ∧ w_.heap.size ≤ b) ∧ Go.Proofs.Ytgcpbaipdpchfaa.H.Fr g0_ v w_ w' := by
 induction k using Nat.strongRecOn with
 | _ k ih =>
 intro B_ A0 c0 l0 a1 a2 v a3 A4 c4 l4 a5 r_ w_ g0_ g1_ g2_ hB_ hg0 hO hL h4 hc4 hn1 hn2 hg1_ hg2_ h
 cases k with
 | zero => exact absurd h (by simp [impl_matchingsLit1.f])
 | succ k =>
 simp only [impl_matchingsLit1.f] at h
 by_cases hbd : a3.length < 1048576
 case neg => rw [if_neg hbd] at h; cases h
 rw [if_pos hbd] at h
 have hu54 := Try.underlying54
 have HC0 := Aside0.mk (Kd.R_reads' hL).2.1
 have HC4 := Aside0.mk hc4
 have H' := Aside0.mk h
 obtain ⟨Av, cv, hv⟩ := Kd.S_slice hO
 subst hv
 have hx0 : w_.cell? ⟨g0_, 0, none⟩ = some (Value.slice Av a3.length cv) := (blk_cell hg0 0).trans rfl
 have hne : some g0_ ≠ (Value.slice Av a3.length cv).ownBlock := fun e_ => ((Kd.S_R hO).1 g0_ e_.symm).1 rfl
 have hfL : Kd.F k54 w_ (fun k => k ≠ g0_ ∧ (Value.slice Av a3.length cv).ownBlock ≠ some k) A0 l0.length l0 := Kd.F_mono (Kd.R_F hL) (fun k hk => ⟨hk.1, fun e_ => hk.2 e_.symm⟩)
 have LM : Aside0 ((a3.length + 1) * 24 ≤ 140737488355328) := ⟨by omega⟩
 have HBs := Aside0.mk hB_
 have HG := Aside0.mk hg0
 have HO := Aside0.mk hO
 have HLL := Aside0.mk hL
 have HFL := Aside0.mk hfL
 have H4 := Aside0.mk h4
 have HN1 := Aside0.mk hn1
 have HN2 := Aside0.mk hn2
 have HE1 := Aside0.mk hg1_
 have HE2 := Aside0.mk hg2_
 have HNE := Aside0.mk hne
 clear hbd hB_ hg0 hO hL hfL h4 hc4 hn1 hn2 hg1_ hg2_ hne h
 go_enter Try.func120, Try.ntmps120
 go_wp2_with ((with_reducible refine gate_builtin (b := .append) (xs := #[.tmp 11, .tmp 13]) rfl ?_); at_builtin; refine Kd.S_append (Kd.slice 54 k54) (w0 := w_) B_ rfl (.tmp 11) (.tmp 13) 22 31 (.slice none 0 0) 24 rfl Try.underlying22 info31 rfl (by decide) (by omega) (.slice Av a3.length cv) a3 l0 [.slice A0 l0.length c0] (fun k_ => k_ ≠ g0_) (fun k_ => some k_ = (.slice A0 l0.length c0 : Value).ownBlock) rfl rfl ?aP (fun k_ hk_ => HLL.out.1 k_ hk_.symm) ?aF ?aO ?aB ?aS ?aL ?_; (case aP => exact Kd.M_row (Kd.R_tight rfl HLL.out)); (case aF => exact (fun k_ hk_ => by show k_ ≠ g0_; have := blk_lt HG.out; omega)); (case aO => exact Kd.S_mono HO.out (fun k_ hk_ => ⟨hk_.1, fun e_ => hk_.2 e_⟩)); (case aB => exact Below.refl _ _); (case aS => exact HBs.out); (case aL => exact LM.out); intro v1 w1 hS1 hb1 hgr hat; obtain ⟨Av1, cv1, hv1⟩ := Kd.S_slice hS1; obtain ⟨nn1, hnn1⟩ : ∃ n_, n_ = (a3 ++ [l0]).length := ⟨_, rfl⟩; rw [← hnn1] at hv1; clear hnn1; subst hv1; have hg1b := blk_grown HG.out hgr HNE.out; have hc1_ : w1.cell? ⟨g0_, 0, none⟩ = some (Value.slice Av a3.length cv) := (blk_cell hg1b 0).trans rfl; have hf1_ := blk_frozen hg1b 0; have HS1 := Aside0.mk hS1; have HGR := Aside0.mk hgr; have HAT := Aside0.mk hat; have HG1B := Aside0.mk hg1b; clear hS1 hb1 hgr hat hg1b)
 have HI : Aside0 (Go.Proofs.Ytgcpbaipdpchfaa.H.AddInv k54 54 31 22 B_ g0_ g1_ g2_ (Value.slice Av a3.length cv) w_ A0 l0 A4 l4 (.slice A4 l4.length c4) (.func (.func 120) #[] #[.pointer (some ⟨g0_, 0, none⟩), .pointer (some ⟨g1_, 0, none⟩), .pointer (some ⟨g2_, 0, none⟩)]) (Value.slice Av1 nn1 cv1) (a3 ++ [l0]) (w1.setCell ⟨g0_, 0, none⟩ (Value.slice Av1 nn1 cv1))) := ⟨by
  have hfr : Go.Proofs.Ytgcpbaipdpchfaa.H.Fr g0_ (Value.slice Av a3.length cv) w_ (w1.setCell ⟨g0_, 0, none⟩ (Value.slice Av1 nn1 cv1)) := Go.Proofs.Ytgcpbaipdpchfaa.H.Fr.of_append HGR.out
  have hat' : (Value.slice Av1 nn1 cv1).ownBlock = (Value.slice Av a3.length cv).ownBlock ∨ ∃ b, (Value.slice Av1 nn1 cv1).ownBlock = some b ∧ w_.heap.size ≤ b := HAT.out
  have hm : ∀ {A : Option Addr} {n : Nat} {l : List (S54)}, Kd.F k54 w_ (fun k => k ≠ g0_ ∧ (Value.slice Av a3.length cv).ownBlock ≠ some k) A n l → Kd.F k54 (w1.setCell ⟨g0_, 0, none⟩ (Value.slice Av1 nn1 cv1)) (fun k => k ≠ g0_ ∧ (Value.slice Av1 nn1 cv1).ownBlock ≠ some k) A n l := fun hFF => Kd.F_mono (hfr.F (Kd.F_bound hFF) (fun k hk => hk.1)) (fun k hk => ⟨hk.1.1, Go.Proofs.Ytgcpbaipdpchfaa.H.own_keep hat' hk.2 hk.1.2⟩)
  exact ⟨HBs.out, by have := blk_set HG1B.out 0 (Value.slice Av1 nn1 cv1); simpa using this, Kd.S_far HS1.out (fun k hk => hk) (Value.slice Av1 nn1 cv1), hat', hfr, hm HFL.out, hm H4.out, ⟨HN1.out.1, Go.Proofs.Ytgcpbaipdpchfaa.H.own_keep hat' (World.block_lt_of_cell? w_ _ HE1.out) HN1.out.2⟩, ⟨HN2.out.1, Go.Proofs.Ytgcpbaipdpchfaa.H.own_keep hat' (World.block_lt_of_cell? w_ _ HE2.out) HN2.out.2⟩, hfr.cell HE1.out HN1.out.1 HN1.out.2, hfr.cell HE2.out HN2.out.1 HN2.out.2⟩⟩
 clear HG HO HLL HFL H4 HE1 HE2 HS1 HGR HG1B HAT hx0 hc1_ hf1_
 go_loopg [9] k (fun kq v9 w' => ∃ (x9_1 : Int) (vr : Value) (o_1 : List (List (S54))), v9 = .int .i64 x9_1 ∧ Aside0 (impl_matchingsLit1.l0 kq l0 a2 o_1 l4 a5 x9_1 = some r_) ∧ Aside0 (kq ≤ k) ∧ Aside0 (Go.Proofs.Ytgcpbaipdpchfaa.H.AddInv k54 54 31 22 B_ g0_ g1_ g2_ (Value.slice Av a3.length cv) w_ A0 l0 A4 l4 (.slice A4 l4.length c4) (.func (.func 120) #[] #[.pointer (some ⟨g0_, 0, none⟩), .pointer (some ⟨g1_, 0, none⟩), .pointer (some ⟨g2_, 0, none⟩)]) vr o_1 w'))
 case atStart => exact ⟨a1, (Value.slice Av1 nn1 cv1), a3 ++ [l0], (by first | rfl | (simp; done) | (simp [*]; done)), H', ⟨Nat.le_refl _⟩, HI⟩
 case round =>
  clear H'
  try clear p2
  try clear c4
  try clear c8
  clear HI
  obtain ⟨x9_1, vr, o_1, rfl, HA, HK1, HI0⟩ := hrel
  obtain ⟨w, hw⟩ : ∃ x_, x_ = wr := ⟨_, rfl⟩
  have HI : Aside0 (Go.Proofs.Ytgcpbaipdpchfaa.H.AddInv k54 54 31 22 B_ g0_ g1_ g2_ (Value.slice Av a3.length cv) w_ A0 l0 A4 l4 (.slice A4 l4.length c4) (.func (.func 120) #[] #[.pointer (some ⟨g0_, 0, none⟩), .pointer (some ⟨g1_, 0, none⟩), .pointer (some ⟨g2_, 0, none⟩)]) vr o_1 w) := ⟨by rw [hw]; exact HI0.out⟩
  have HB : Aside0 (Below w.heap.size w wr) := ⟨by rw [hw]; exact Below.refl _ _⟩
  have HR0 := Aside0.mk (Kd.F_now HI.out.L)
  have HR4 := Aside0.mk (Kd.F_now HI.out.C)
  have HG1_ := Aside0.mk HI.out.c1
  have HG2_ := Aside0.mk HI.out.c2
  have hr1_ := HI0.out.c1
  have hr2_ := HI0.out.c2
  clear hw HI0
  cases gk with
  | zero => exact absurd HA.out (by simp [impl_matchingsLit1.l0])
  | succ k1 =>
   have H := HA.out
   clear HA
   simp only [impl_matchingsLit1.l0] at H
   by_cases c9 : x9_1 < (l4.length : Int)
   ·rw [if_pos c9] at H
    have c9b0 : decide (x9_1 < (l4.length : Int)) = true := decide_eq_true c9
    clear c9
    by_cases c10 : 0 ≤ x9_1
    ·rw [if_pos c10] at H
     have c10b0 : decide (0 ≤ x9_1) = true := decide_eq_true c10
     clear c10
     by_cases c11 : 0 ≤ ((rd_T54 l4 x9_1).f0)
     ·rw [if_pos c11] at H
      have c11b0 := eq_true c11
      have c11b1 : decide (0 ≤ ((rd_T54 l4 x9_1).f0)) = true := decide_eq_true c11
      clear c11
      obtain ⟨ji12, hji12⟩ : ∃ j_ : Int, (shl .u16 1 ((rd_T54 l4 x9_1).f0)) = j_ := ⟨_, rfl⟩
      replace H : (if 0 ≤ ((rd_T54 l4 x9_1).f1) then (if (Go.bits .and .u16 a2 (Go.bits .or .u16 (ji12) (shl .u16 1 ((rd_T54 l4 x9_1).f1)))) = 0 then ((impl_Call.f l0).bind fun t264 => ((some (([(⟨(rd_T54 l4 x9_1).f0, (rd_T54 l4 x9_1).f1⟩ : S54)] : List (S54)) : List (S54))).bind fun y268 => (if t264.length + y268.length < 8796093022208 then ((impl_matchingsLit1.f k1 (t264 ++ y268) (wrap64 (x9_1 + 1)) (Go.bits .or .u16 a2 (Go.bits .or .u16 (ji12) (shl .u16 1 ((rd_T54 l4 x9_1).f1)))) o_1 l4 a5).bind fun o_ => (impl_matchingsLit1.l0 k1 l0 a2 o_ l4 a5 (wrap64 (x9_1 + 1)))) else (none)))) else (impl_matchingsLit1.l0 k1 l0 a2 o_1 l4 a5 (wrap64 (x9_1 + 1)))) else (none)) = some r_ := by first | (rw [hji12] at H; exact H) | (simp only [hji12] at H ⊢; exact H)
      have hji12_ : (IntKind.u16.wrap (1 * 2 ^ min ((rd_T54 l4 x9_1).f0).toNat 16)) = ji12 := hji12
      have hji12z : ((rd_T54 l4 x9_1).f0) ≤ 16 → (IntKind.u16.wrap (1 * 2 ^ ((rd_T54 l4 x9_1).f0).toNat)) = ji12 := shl_small hji12
      have hji12u : (IntKind.u16.wrap (2 ^ min ((rd_T54 l4 x9_1).f0).toNat 16)) = ji12 := by have h_ := hji12_; rw [Int.one_mul] at h_; exact h_
      have hji12v : ((rd_T54 l4 x9_1).f0) ≤ 16 → (IntKind.u16.wrap (2 ^ ((rd_T54 l4 x9_1).f0).toNat)) = ji12 := fun hle_ => by have h_ := hji12z hle_; rw [Int.one_mul] at h_; exact h_
      by_cases c13 : 0 ≤ ((rd_T54 l4 x9_1).f1)
      ·rw [if_pos c13] at H
       have c13b0 := eq_true c13
       have c13b1 : decide (0 ≤ ((rd_T54 l4 x9_1).f1)) = true := decide_eq_true c13
       clear c13
       obtain ⟨ji14, hji14⟩ : ∃ j_ : Int, (shl .u16 1 ((rd_T54 l4 x9_1).f1)) = j_ := ⟨_, rfl⟩
       replace H : (if (Go.bits .and .u16 a2 (Go.bits .or .u16 (ji12) (ji14))) = 0 then ((impl_Call.f l0).bind fun t264 => ((some (([(⟨(rd_T54 l4 x9_1).f0, (rd_T54 l4 x9_1).f1⟩ : S54)] : List (S54)) : List (S54))).bind fun y268 => (if t264.length + y268.length < 8796093022208 then ((impl_matchingsLit1.f k1 (t264 ++ y268) (wrap64 (x9_1 + 1)) (Go.bits .or .u16 a2 (Go.bits .or .u16 (ji12) (ji14))) o_1 l4 a5).bind fun o_ => (impl_matchingsLit1.l0 k1 l0 a2 o_ l4 a5 (wrap64 (x9_1 + 1)))) else (none)))) else (impl_matchingsLit1.l0 k1 l0 a2 o_1 l4 a5 (wrap64 (x9_1 + 1)))) = some r_ := by first | (rw [hji14] at H; exact H) | (simp only [hji14] at H ⊢; exact H)
       have hji14_ : (IntKind.u16.wrap (1 * 2 ^ min ((rd_T54 l4 x9_1).f1).toNat 16)) = ji14 := hji14
       have hji14z : ((rd_T54 l4 x9_1).f1) ≤ 16 → (IntKind.u16.wrap (1 * 2 ^ ((rd_T54 l4 x9_1).f1).toNat)) = ji14 := shl_small hji14
       have hji14u : (IntKind.u16.wrap (2 ^ min ((rd_T54 l4 x9_1).f1).toNat 16)) = ji14 := by have h_ := hji14_; rw [Int.one_mul] at h_; exact h_
       have hji14v : ((rd_T54 l4 x9_1).f1) ≤ 16 → (IntKind.u16.wrap (2 ^ ((rd_T54 l4 x9_1).f1).toNat)) = ji14 := fun hle_ => by have h_ := hji14z hle_; rw [Int.one_mul] at h_; exact h_
       by_cases c15 : (Go.bits .and .u16 a2 (Go.bits .or .u16 (ji12) (ji14))) = 0
       ·rw [if_pos c15] at H
        have c15b0 : ((Go.bits .and .u16 a2 (Go.bits .or .u16 (ji12) (ji14))) == 0) = true := beq_iff_eq.mpr c15
        have c15b1 : ((Go.bits .and .u16 a2 (Go.bits .or .u16 (ji12) (ji14))) != 0) = false := bne_eq_false_iff_eq.mpr c15
        clear c15
        replace H := Option.bind_eq_some_iff.mp H
        obtain ⟨t264, A160, H⟩ := H
        replace H : ((some (([(⟨(rd_T54 l4 x9_1).f0, (rd_T54 l4 x9_1).f1⟩ : S54)] : List (S54)) : List (S54))).bind fun y268 => (if t264.length + y268.length < 8796093022208 then ((impl_matchingsLit1.f k1 (t264 ++ y268) (wrap64 (x9_1 + 1)) (Go.bits .or .u16 a2 (Go.bits .or .u16 (ji12) (ji14))) o_1 l4 a5).bind fun o_ => (impl_matchingsLit1.l0 k1 l0 a2 o_ l4 a5 (wrap64 (x9_1 + 1)))) else (none))) = some r_ := H
        have A16 := Aside0.mk A160
        clear A160
        obtain ⟨y268, hy268⟩ : ∃ y_ : List (S54), y_ = (([(⟨(rd_T54 l4 x9_1).f0, (rd_T54 l4 x9_1).f1⟩ : S54)] : List (S54))) := ⟨_, rfl⟩
        replace H : (if t264.length + y268.length < 8796093022208 then ((impl_matchingsLit1.f k1 (t264 ++ y268) (wrap64 (x9_1 + 1)) (Go.bits .or .u16 a2 (Go.bits .or .u16 (ji12) (ji14))) o_1 l4 a5).bind fun o_ => (impl_matchingsLit1.l0 k1 l0 a2 o_ l4 a5 (wrap64 (x9_1 + 1)))) else (none)) = some r_ := by first | (rw [hy268]; with_reducible exact H) | (have H2_ := (Option.bind_some _ _).symm.trans H; rw [hy268]; with_reducible exact H2_) | (have H2_ := (Option.bind_some _ _).symm.trans H; with_reducible exact H2_) | with_reducible exact H | (rw [hy268]; exact H) | exact H
        have Ny268 := Aside0.mk hy268
        clear hy268
        by_cases c17 : t264.length + y268.length < 8796093022208
        ·rw [if_pos c17] at H
         have LMc17 := Aside0.mk c17
         clear c17
         obtain ⟨y271, hy271⟩ : ∃ y_ : List (S54), y_ = (t264 ++ y268) := ⟨_, rfl⟩
         replace H : ((impl_matchingsLit1.f k1 y271 (wrap64 (x9_1 + 1)) (Go.bits .or .u16 a2 (Go.bits .or .u16 (ji12) (ji14))) o_1 l4 a5).bind fun o_ => (impl_matchingsLit1.l0 k1 l0 a2 o_ l4 a5 (wrap64 (x9_1 + 1)))) = some r_ := by first | (rw [hy271]; with_reducible exact H) | (have H2_ := (Option.bind_some _ _).symm.trans H; rw [hy271]; with_reducible exact H2_) | (have H2_ := (Option.bind_some _ _).symm.trans H; with_reducible exact H2_) | with_reducible exact H | (rw [hy271]; exact H) | exact H
         have Ny271 := Aside0.mk hy271
         clear hy271
         replace H := Option.bind_eq_some_iff.mp H
         obtain ⟨o_2, A180, H⟩ := H
         replace H : (impl_matchingsLit1.l0 k1 l0 a2 o_2 l4 a5 (wrap64 (x9_1 + 1))) = some r_ := H
         have A18 := Aside0.mk A180
         clear A180
         have H' := Aside0.mk H
         clear H
         try go_wp2
         have n0_ := Aside0.mk (below_drew1 HB.out)
         clear HB
         have HB := n0_
         clear n0_
         have p262 : 0 ≤ (x9_1 : Int) := of_decide_eq_true (by first | (with_reducible assumption) | assumption)
         have q262 : x9_1 < (l4.length : Int) := of_decide_eq_true (by first | (with_reducible assumption) | assumption)
         obtain ⟨ad262, e262, hx262_0, hx262_1⟩ := at_T54 HR4.out x9_1 p262 q262
         have hw262_1 := hx262_1
         have hw262_0 := hx262_0
         cases e262
         replace hx262_0 := (HB.out.cell (World.block_lt_of_cell? w _ hx262_0)).trans hx262_0
         replace hx262_1 := (HB.out.cell (World.block_lt_of_cell? w _ hx262_1)).trans hx262_1
         replace p262 := eq_true p262
         replace q262 := eq_true q262
         have p263 : 0 ≤ (x9_1 : Int) := of_decide_eq_true (by first | (with_reducible assumption) | assumption)
         have q263 : x9_1 < (l4.length : Int) := of_decide_eq_true (by first | (with_reducible assumption) | assumption)
         obtain ⟨ad263, e263, hx263_0, hx263_1⟩ := at_T54 HR4.out x9_1 p263 q263
         have hw263_1 := hx263_1
         have hw263_0 := hx263_0
         obtain rfl : ad262 = ad263 := (by injection e263)
         replace hx263_0 := (HB.out.cell (World.block_lt_of_cell? w _ hx263_0)).trans hx263_0
         replace hx263_1 := (HB.out.cell (World.block_lt_of_cell? w _ hx263_1)).trans hx263_1
         replace p263 := eq_true p263
         replace q263 := eq_true q263
         refine start_ (n := 14) (S := fun w' => w'.cell? ⟨g1_, 0, none⟩ = some (.slice (some ad262) l4.length c4) ∧ w'.cell? ⟨g2_, 0, none⟩ = some (.func (.func 120) #[] #[.pointer (some ⟨g0_, 0, none⟩), .pointer (some ⟨g1_, 0, none⟩), .pointer (some ⟨g2_, 0, none⟩)]) ∧ w'.cell? (ad262.add ((x9_1).toNat * 2)) = some (.int .i64 ((rd_T54 l4 x9_1).f0)) ∧ w'.cell? ⟨(ad262.add ((x9_1).toNat * 2)).block, (ad262.add ((x9_1).toNat * 2)).off + 1, none⟩ = some (.int .i64 ((rd_T54 l4 x9_1).f1)) ∧ w'.cell? (ad262.add ((x9_1).toNat * 2)) = some (.int .i64 ((rd_T54 l4 x9_1).f0)) ∧ w'.cell? ⟨(ad262.add ((x9_1).toNat * 2)).block, (ad262.add ((x9_1).toNat * 2)).off + 1, none⟩ = some (.int .i64 ((rd_T54 l4 x9_1).f1))) (ds := []) #[false, false, false, false, false, false, false, false, false, false, false, false, false, false] (by kernel_rfl) rfl rfl ⟨Go.Proofs.Ytgcpbaipdpchfaa.H.cell_b (by repeat (first | (with_reducible first | exact HB.out | apply below_alloc | apply pw_below_drewN | apply below_drew1) | exact HB.out)) HG1_.out, Go.Proofs.Ytgcpbaipdpchfaa.H.cell_b (by repeat (first | (with_reducible first | exact HB.out | apply below_alloc | apply pw_below_drewN | apply below_drew1) | exact HB.out)) HG2_.out, ((HB.out.cell (World.block_lt_of_cell? w _ hw262_0)).trans hw262_0), ((HB.out.cell (World.block_lt_of_cell? w _ hw262_1)).trans hw262_1), ((HB.out.cell (World.block_lt_of_cell? w _ hw263_0)).trans hw263_0), ((HB.out.cell (World.block_lt_of_cell? w _ hw263_1)).trans hw263_1)⟩ (fun hHeld => ?_); refine with_tabW impl_matchingsLit1.tab4 impl_matchingsLit1.bits4 (fun HT_ HW_ => ?_)
         generalize wr.drew = w19 at HB hx262_0 hx262_1 hx263_0 hx263_1 hHeld ⊢
         refine take_ (i := 0) (N := some 22) (v := ?_) (a' := ?_) #[true, false, false, false, false, false, false, false, false, false, false, false, false, false] rfl rfl (take_ofW HT_.out HW_.out (by kernel_rfl)) (fun _ _ _ h => h) (Or.inl ⟨by rfl, ?_⟩) hHeld ?_ ?_
         rotate_left
         ·rintro w' ⟨t1_, t2_, s0, s1, s2, s3⟩
          go_simp
          with_reducible rfl
         (rotate_left; simp only [Act.put, List.setIfInBounds_toArray, List.set_cons_zero, List.set_cons_succ, i64_w, i32_w]; rfl)
         refine pure_ (i := 1) (N := some 23) (v := ?_) (a' := ?_) #[true, true, false, false, false, false, false, false, false, false, false, false, false, false] rfl rfl (any_of HT_.out (by kernel_rfl)) (fun _ _ _ h => h) (Or.inl ⟨by rfl, ?_⟩) ?_ ?_
         (rotate_left; intro w'; go_simp; with_reducible rfl; rotate_left; simp only [Act.put, List.setIfInBounds_toArray, List.set_cons_zero, List.set_cons_succ, i64_w, i32_w]; rfl)
         refine pure_ (i := 2) (N := some 24) (v := ?_) (a' := ?_) #[true, true, true, false, false, false, false, false, false, false, false, false, false, false] rfl rfl (any_of HT_.out (by kernel_rfl)) (fun _ _ _ h => h) (Or.inl ⟨by rfl, ?_⟩) ?_ ?_
         (rotate_left; intro w'; go_simp; with_reducible rfl; rotate_left; simp only [Act.put, List.setIfInBounds_toArray, List.set_cons_zero, List.set_cons_succ, i64_w, i32_w]; rfl)
         refine pure_ (i := 3) (N := some 25) (v := ?_) (a' := ?_) #[true, true, true, true, false, false, false, false, false, false, false, false, false, false] rfl rfl (any_of HT_.out (by kernel_rfl)) (fun _ _ _ h => h) (Or.inl ⟨by rfl, ?_⟩) ?_ ?_
         (rotate_left; intro w'; go_simp; with_reducible rfl; rotate_left; simp only [Act.put, List.setIfInBounds_toArray, List.set_cons_zero, List.set_cons_succ, i64_w, i32_w]; rfl)
         refine take_ (i := 6) (N := some 28) (v := ?_) (a' := ?_) #[true, true, true, true, false, false, true, false, false, false, false, false, false, false] rfl rfl (take_ofW HT_.out HW_.out (by kernel_rfl)) (fun _ _ _ h => h) (Or.inl ⟨by rfl, ?_⟩) hHeld ?_ ?_
         rotate_left
         ·rintro w' ⟨t1_, t2_, s0, s1, s2, s3⟩
          go_simp
          with_reducible rfl
         (rotate_left; simp only [Act.put, List.setIfInBounds_toArray, List.set_cons_zero, List.set_cons_succ, i64_w, i32_w]; rfl)
         refine pure_ (i := 7) (N := some 29) (v := ?_) (a' := ?_) #[true, true, true, true, false, false, true, true, false, false, false, false, false, false] rfl rfl (any_of HT_.out (by kernel_rfl)) (fun _ _ _ h => h) (Or.inl ⟨by rfl, ?_⟩) ?_ ?_
         (rotate_left; intro w'; go_simp; with_reducible rfl; rotate_left; simp only [Act.put, List.setIfInBounds_toArray, List.set_cons_zero, List.set_cons_succ, i64_w, i32_w]; rfl)
         refine pure_ (i := 8) (N := some 30) (v := ?_) (a' := ?_) #[true, true, true, true, false, false, true, true, true, false, false, false, false, false] rfl rfl (any_of HT_.out (by kernel_rfl)) (fun _ _ _ h => h) (Or.inl ⟨by rfl, ?_⟩) ?_ ?_
         (rotate_left; intro w'; go_simp; with_reducible rfl; rotate_left; simp only [Act.put, List.setIfInBounds_toArray, List.set_cons_zero, List.set_cons_succ, i64_w, i32_w]; rfl)
         refine pure_ (i := 9) (N := some 31) (v := ?_) (a' := ?_) #[true, true, true, true, false, false, true, true, true, true, false, false, false, false] rfl rfl (any_of HT_.out (by kernel_rfl)) (fun _ _ _ h => h) (Or.inl ⟨by rfl, ?_⟩) ?_ ?_
         (rotate_left; intro w'; go_simp; with_reducible rfl; rotate_left; simp only [Act.put, List.setIfInBounds_toArray, List.set_cons_zero, List.set_cons_succ, i64_w, i32_w]; rfl)
         refine take_ (i := 4) (N := some 26) (v := ?_) (a' := ?_) #[true, true, true, true, true, false, true, true, true, true, false, false, false, false] rfl rfl (take_ofW HT_.out HW_.out (by kernel_rfl)) (fun _ _ _ h => h) (Or.inl ⟨by rfl, ?_⟩) hHeld ?_ ?_
         rotate_left
         ·rintro w' ⟨t1_, t2_, s0, s1, s2, s3⟩
          go_simp
          with_reducible rfl
         (rotate_left; simp only [Act.put, List.setIfInBounds_toArray, List.set_cons_zero, List.set_cons_succ, i64_w, i32_w]; rfl)
         refine pure_ (i := 5) (N := some 27) (v := ?_) (a' := ?_) #[true, true, true, true, true, true, true, true, true, true, false, false, false, false] rfl rfl (any_of HT_.out (by kernel_rfl)) (fun _ _ _ h => h) (Or.inl ⟨by rfl, ?_⟩) ?_ ?_
         (rotate_left; intro w'; go_simp; with_reducible rfl; rotate_left; simp only [Act.put, List.setIfInBounds_toArray, List.set_cons_zero, List.set_cons_succ, i64_w, i32_w]; rfl)
         refine take_ (i := 10) (N := some 32) (v := ?_) (a' := ?_) #[true, true, true, true, true, true, true, true, true, true, true, false, false, false] rfl rfl (take_ofW HT_.out HW_.out (by kernel_rfl)) (fun _ _ _ h => h) (Or.inl ⟨by rfl, ?_⟩) hHeld ?_ ?_
         rotate_left
         ·rintro w' ⟨t1_, t2_, s0, s1, s2, s3⟩
          go_simp
          with_reducible rfl
         (rotate_left; simp only [Act.put, List.setIfInBounds_toArray, List.set_cons_zero, List.set_cons_succ, i64_w, i32_w]; rfl)
         refine pure_ (i := 11) (N := some 33) (v := ?_) (a' := ?_) #[true, true, true, true, true, true, true, true, true, true, true, true, false, false] rfl rfl (any_of HT_.out (by kernel_rfl)) (fun _ _ _ h => h) (Or.inl ⟨by rfl, ?_⟩) ?_ ?_
         (rotate_left; intro w'; go_simp; with_reducible rfl; rotate_left; simp only [Act.put, List.setIfInBounds_toArray, List.set_cons_zero, List.set_cons_succ, i64_w, i32_w]; rfl)
         refine pure_ (i := 12) (N := some 34) (v := ?_) (a' := ?_) #[true, true, true, true, true, true, true, true, true, true, true, true, true, false] rfl rfl (any_of HT_.out (by kernel_rfl)) (fun _ _ _ h => h) (Or.inl ⟨by rfl, ?_⟩) ?_ ?_
         (rotate_left; intro w'; go_simp; with_reducible rfl; rotate_left; simp only [Act.put, List.setIfInBounds_toArray, List.set_cons_zero, List.set_cons_succ, i64_w, i32_w]; rfl)
         refine pure_ (i := 13) (N := some 10) (v := ?_) (a' := ?_) #[true, true, true, true, true, true, true, true, true, true, true, true, true, true] rfl rfl (any_of HT_.out (by kernel_rfl)) (fun _ _ _ h => h) (Or.inl ⟨by rfl, ?_⟩) ?_ ?_
         (rotate_left; intro w'; go_simp; with_reducible rfl; rotate_left; simp only [Act.put, List.setIfInBounds_toArray, List.set_cons_zero, List.set_cons_succ, i64_w, i32_w]; rfl)
         refine done_ (done_of HT_.out (by kernel_rfl)) ?_
         try go_wp2
         have n0_ := Aside0.mk (below_drew1 HB.out)
         clear HB
         have HB := n0_
         clear n0_
         have p267 : 0 ≤ (x9_1 : Int) := of_decide_eq_true (by first | (with_reducible assumption) | assumption)
         have q267 : x9_1 < (l4.length : Int) := of_decide_eq_true (by first | (with_reducible assumption) | assumption)
         obtain ⟨ad267, e267, hx267_0, hx267_1⟩ := at_T54 HR4.out x9_1 p267 q267
         have hw267_1 := hx267_1
         have hw267_0 := hx267_0
         obtain rfl : ad262 = ad267 := (by injection e267)
         replace hx267_0 := (HB.out.cell (World.block_lt_of_cell? w _ hx267_0)).trans hx267_0
         replace hx267_1 := (HB.out.cell (World.block_lt_of_cell? w _ hx267_1)).trans hx267_1
         replace p267 := eq_true p267
         replace q267 := eq_true q267
         refine start_ (n := 15) (S := fun w' => w'.cell? ⟨g1_, 0, none⟩ = some (.slice (some ad262) l4.length c4) ∧ w'.cell? ⟨g2_, 0, none⟩ = some (.func (.func 120) #[] #[.pointer (some ⟨g0_, 0, none⟩), .pointer (some ⟨g1_, 0, none⟩), .pointer (some ⟨g2_, 0, none⟩)]) ∧ w'.cell? (ad262.add ((x9_1).toNat * 2)) = some (.int .i64 ((rd_T54 l4 x9_1).f0)) ∧ w'.cell? ⟨(ad262.add ((x9_1).toNat * 2)).block, (ad262.add ((x9_1).toNat * 2)).off + 1, none⟩ = some (.int .i64 ((rd_T54 l4 x9_1).f1))) (ds := []) #[false, false, false, false, false, false, false, false, false, false, false, false, false, false, false] (by kernel_rfl) rfl rfl ⟨Go.Proofs.Ytgcpbaipdpchfaa.H.cell_b (by repeat (first | (with_reducible first | exact HB.out | apply below_alloc | apply pw_below_drewN | apply below_drew1) | exact HB.out)) HG1_.out, Go.Proofs.Ytgcpbaipdpchfaa.H.cell_b (by repeat (first | (with_reducible first | exact HB.out | apply below_alloc | apply pw_below_drewN | apply below_drew1) | exact HB.out)) HG2_.out, ((HB.out.cell (World.block_lt_of_cell? w _ hw267_0)).trans hw267_0), ((HB.out.cell (World.block_lt_of_cell? w _ hw267_1)).trans hw267_1)⟩ (fun hHeld => ?_); refine with_tabW impl_matchingsLit1.tab6 impl_matchingsLit1.bits6 (fun HT_ HW_ => ?_)
         generalize w19.drew = w20 at HB hx267_0 hx267_1 hHeld ⊢
         refine take_ (i := 0) (N := some 39) (v := ?_) (a' := ?_) #[true, false, false, false, false, false, false, false, false, false, false, false, false, false, false] rfl rfl (take_ofW HT_.out HW_.out (by kernel_rfl)) (fun _ _ _ h => h) (Or.inl ⟨by rfl, ?_⟩) hHeld ?_ ?_
         rotate_left
         ·rintro w' ⟨t1_, t2_, s0, s1⟩
          go_simp
          with_reducible rfl
         (rotate_left; simp only [Act.put, List.setIfInBounds_toArray, List.set_cons_zero, List.set_cons_succ, i64_w, i32_w]; rfl)
         refine pure_ (i := 1) (N := some 40) (v := ?_) (a' := ?_) #[true, true, false, false, false, false, false, false, false, false, false, false, false, false, false] rfl rfl (any_of HT_.out (by kernel_rfl)) (fun _ _ _ h => h) (Or.inl ⟨by rfl, ?_⟩) ?_ ?_
         (rotate_left; intro w'; go_simp; with_reducible rfl; rotate_left; simp only [Act.put, List.setIfInBounds_toArray, List.set_cons_zero, List.set_cons_succ, i64_w, i32_w]; rfl)
         refine take_ (i := 3) (N := some 42) (v := ?_) (a' := ?_) #[true, true, false, true, false, false, false, false, false, false, false, false, false, false, false] rfl rfl (take_ofW HT_.out HW_.out (by kernel_rfl)) (fun _ _ _ h => h) (Or.inl ⟨by rfl, ?_⟩) hHeld ?_ ?_
         rotate_left
         ·rintro w' ⟨t1_, t2_, s0, s1⟩
          go_simp
          with_reducible rfl
         (rotate_left; simp only [Act.put, List.setIfInBounds_toArray, List.set_cons_zero, List.set_cons_succ, i64_w, i32_w]; rfl)
         refine pure_ (i := 4) (N := some 43) (v := ?_) (a' := ?_) #[true, true, false, true, true, false, false, false, false, false, false, false, false, false, false] rfl rfl (any_of HT_.out (by kernel_rfl)) (fun _ _ _ h => h) (Or.inl ⟨by rfl, ?_⟩) ?_ ?_
         (rotate_left; intro w'; go_simp; with_reducible rfl; rotate_left; simp only [Act.put, List.setIfInBounds_toArray, List.set_cons_zero, List.set_cons_succ, i64_w, i32_w]; rfl)
         refine pure_ (i := 5) (N := some 44) (v := ?_) (a' := ?_) #[true, true, false, true, true, true, false, false, false, false, false, false, false, false, false] rfl rfl (any_of HT_.out (by kernel_rfl)) (fun _ _ _ h => h) (Or.inl ⟨by rfl, ?_⟩) ?_ ?_
         (rotate_left; intro w'; go_simp; with_reducible rfl; rotate_left; simp only [Act.put, List.setIfInBounds_toArray, List.set_cons_zero, List.set_cons_succ, i64_w, i32_w]; rfl)
         refine pure_ (i := 9) (N := some 48) (v := ?_) (a' := ?_) #[true, true, false, true, true, true, false, false, false, true, false, false, false, false, false] rfl rfl (any_of HT_.out (by kernel_rfl)) (fun _ _ _ h => h) (Or.inl ⟨by rfl, ?_⟩) ?_ ?_
         (rotate_left; intro w'; go_simp; with_reducible rfl; rotate_left; simp only [Act.put, List.setIfInBounds_toArray, List.set_cons_zero, List.set_cons_succ, i64_w, i32_w]; rfl)
         refine pure_ (i := 10) (N := some 49) (v := ?_) (a' := ?_) #[true, true, false, true, true, true, false, false, false, true, true, false, false, false, false] rfl rfl (any_of HT_.out (by kernel_rfl)) (fun _ _ _ h => h) (Or.inl ⟨by rfl, ?_⟩) ?_ ?_
         (rotate_left; intro w'; go_simp; with_reducible rfl; rotate_left; simp only [Act.put, List.setIfInBounds_toArray, List.set_cons_zero, List.set_cons_succ, i64_w, i32_w]; rfl)
         refine pure_ (i := 11) (N := some 50) (v := ?_) (a' := ?_) #[true, true, false, true, true, true, false, false, false, true, true, true, false, false, false] rfl rfl (any_of HT_.out (by kernel_rfl)) (fun _ _ _ h => h) (Or.inl ⟨by rfl, ?_⟩) ?_ ?_
         (rotate_left; intro w'; go_simp; with_reducible rfl; rotate_left; simp only [Act.put, List.setIfInBounds_toArray, List.set_cons_zero, List.set_cons_succ, i64_w, i32_w]; rfl)
         refine pure_ (i := 12) (N := some 51) (v := ?_) (a' := ?_) #[true, true, false, true, true, true, false, false, false, true, true, true, true, false, false] rfl rfl (any_of HT_.out (by kernel_rfl)) (fun _ _ _ h => h) (Or.inl ⟨by rfl, ?_⟩) ?_ ?_
         (rotate_left; intro w'; go_simp; with_reducible rfl; rotate_left; simp only [Act.put, List.setIfInBounds_toArray, List.set_cons_zero, List.set_cons_succ, i64_w, i32_w]; rfl)
         refine pure_ (i := 13) (N := some 52) (v := ?_) (a' := ?_) #[true, true, false, true, true, true, false, false, false, true, true, true, true, true, false] rfl rfl (any_of HT_.out (by kernel_rfl)) (fun _ _ _ h => h) (Or.inl ⟨by rfl, ?_⟩) ?_ ?_
         (rotate_left; intro w'; go_simp; with_reducible rfl; rotate_left; simp only [Act.put, List.setIfInBounds_toArray, List.set_cons_zero, List.set_cons_succ, i64_w, i32_w]; rfl)
         refine take_ (i := 6) (N := some 45) (v := ?_) (a' := ?_) #[true, true, false, true, true, true, true, false, false, true, true, true, true, true, false] rfl rfl (take_ofW HT_.out HW_.out (by kernel_rfl)) (fun _ _ _ h => h) (Or.inl ⟨by rfl, ?_⟩) hHeld ?_ ?_
         rotate_left
         ·rintro w' ⟨t1_, t2_, s0, s1⟩
          go_simp
          with_reducible rfl
         (rotate_left; simp only [Act.put, List.setIfInBounds_toArray, List.set_cons_zero, List.set_cons_succ, i64_w, i32_w]; rfl)
         refine join_ (σ := Value × Value) 2 #[true, true, true, true, true, true, true, true, false, true, true, true, true, true, false] (fun s_ => [(41, s_.1), (46, s_.2)]) (fun s_ w' => (w'.cell? ⟨g1_, 0, none⟩ = some (.slice (some ad262) l4.length c4) ∧ w'.cell? ⟨g2_, 0, none⟩ = some (.func (.func 120) #[] #[.pointer (some ⟨g0_, 0, none⟩), .pointer (some ⟨g1_, 0, none⟩), .pointer (some ⟨g2_, 0, none⟩)]) ∧ w'.cell? (ad262.add ((x9_1).toNat * 2)) = some (.int .i64 ((rd_T54 l4 x9_1).f0)) ∧ w'.cell? ⟨(ad262.add ((x9_1).toNat * 2)).block, (ad262.add ((x9_1).toNat * 2)).off + 1, none⟩ = some (.int .i64 ((rd_T54 l4 x9_1).f1))) ∧ (Kd.R k54 54 w' w.heap.size (fun k_ => some k_ ≠ (s_.2 : Value).ownBlock) s_.1 t264) ∧ (Kd.R k54 54 w' w.heap.size (fun k_ => some k_ ≠ (s_.1 : Value).ownBlock) s_.2 y268) ∧ (Below w.heap.size w w')) ?_ ?_
         rotate_left
         ·intro hCont
          refine two_ (i := 2) (j := 7) (Ni := some 41) (Nj := some 46) #[true, true, true, true, true, true, true, false, false, true, true, true, true, true, false] #[true, true, false, true, true, true, true, true, false, true, true, true, true, true, false] rfl rfl rfl rfl (two_of HT_.out (by kernel_rfl)) (by decide) (by decide) (fun K hK => ?_) (fun K hK => ?_)
          ·skip
           refine goes_ Try.func111 (by kernel_rfl) rfl #[.slice A0 l0.length c0] (by rfl) rfl rfl (by (try simp only [List.map_toArray, List.map_cons, List.map_nil]); first | done | rfl | (simp only [List.length_drop, List.length_take]; rfl)) ?_
           with_reducible refine (impl_Call.calls _ _ l0 t264 _ ?side1 ?side2 A16.out).mono ?_
           (case side1 => repeat (first | exact (Kd.C_below HR0.out HB.out) | (with_reducible refine Kd.C_alloc ?_ _) | (with_reducible refine Kd.C_drewN ?_ _) | (with_reducible refine Kd.C_drew ?_)))
           (case side2 => exact HC0.out)
           rintro e w21 ⟨v265, rfl, ho0, hb⟩
           refine ⟨_, rfl, ?_⟩
           have n0_ := Aside0.mk (Kd.R_lower ho0 (below_size (by repeat (first | (with_reducible first | exact HB.out | apply below_alloc | apply pw_below_drewN | apply below_drew1) | exact HB.out))))
           have n1_ := Aside0.mk (below_step (by repeat (first | (with_reducible first | exact HB.out | apply below_alloc | apply pw_below_drewN | apply below_drew1) | exact HB.out)) hb)
           clear HB
           have HO266 := n0_
           have HB := n1_
           clear n0_ n1_
           (try clear hb)
           (try clear hb2)
           (try clear hk)
           (try clear hi)
           (try clear ho0)
           refine hK.out _ _ ⟨Go.Proofs.Ytgcpbaipdpchfaa.H.cell_b (by repeat (first | (with_reducible first | exact HB.out | apply below_alloc | apply pw_below_drewN | apply below_drew1) | exact HB.out)) HG1_.out, Go.Proofs.Ytgcpbaipdpchfaa.H.cell_b (by repeat (first | (with_reducible first | exact HB.out | apply below_alloc | apply pw_below_drewN | apply below_drew1) | exact HB.out)) HG2_.out, ((HB.out.cell (World.block_lt_of_cell? w _ hw267_0)).trans hw267_0), ((HB.out.cell (World.block_lt_of_cell? w _ hw267_1)).trans hw267_1)⟩ (fun hHeld => ?_)
           clear hK K
           refine norm_ (a' := ?_) ?_ ?_
           rotate_left
           ·show Act.put _ (some 41) _ = _
            simp only [Act.put, List.setIfInBounds_toArray, List.set_cons_zero, List.set_cons_succ, i64_w, i32_w]
            rfl
           refine one_ (i := 7) (N := some 46) #[true, true, true, true, true, true, true, true, false, true, true, true, true, true, false] rfl rfl (one_of HT_.out (by kernel_rfl)) (by decide) (fun K hK => ?_)
           refine Kd.R_lit_step k54 _ 54 ?hg (N := 46) ?hd (xs := ([(⟨(rd_T54 l4 x9_1).f0, (rd_T54 l4 x9_1).f1⟩ : S54)] : List (S54))) (inner := [.int .i64 ((rd_T54 l4 x9_1).f0), .int .i64 ((rd_T54 l4 x9_1).f1)]) (ok := fun _ => True) (okp := fun _ => True) ?hr ?hp (fun _ hk => hk) trivial (Below.refl _ _) (Nat.le_refl _) (by simp) ?_; (case hd => rfl); (case hg => rfl); (case hr => first | (go_simp; done) | (go_simp; rfl)); (case hp => exact (Reps.c2 (show Kd.M k54 _ _ _ (⟨(rd_T54 l4 x9_1).f0, (rd_T54 l4 x9_1).f1⟩ : S54) [.int .i64 ((rd_T54 l4 x9_1).f0), .int .i64 ((rd_T54 l4 x9_1).f1)] from (k54_mkM _ _ _ (⟨(rd_T54 l4 x9_1).f0, (rd_T54 l4 x9_1).f1⟩ : S54) )) (Reps.none _ _)))
           intro v269 w22 ho23 hb hg_ hnew_
           clear hg_ hnew_
           (first | rw [← Ny268.out] at ho23 | (simp only [Int.reduceToNat] at ho23; rw [← Ny268.out] at ho23))
           have n0_ := Aside0.mk (Kd.R_elder' (by (with_reducible repeat (first | apply Kd.R_alloc | apply Kd.R_drewN | apply Kd.R_drew)); exact HO266.out) (Kd.R_base ho23) hb)
           have n1_ := Aside0.mk (Kd.R_lower (Kd.R_new' ho23 (Kd.R_lt (by (with_reducible repeat (first | apply Kd.R_alloc | apply Kd.R_drewN | apply Kd.R_drew)); exact HO266.out))) (below_size (by repeat (first | (with_reducible first | exact HB.out | apply below_alloc | apply pw_below_drewN | apply below_drew1) | exact HB.out))))
           have n2_ := Aside0.mk (below_step (by repeat (first | (with_reducible first | exact HB.out | apply below_alloc | apply pw_below_drewN | apply below_drew1) | exact HB.out)) hb)
           clear HO266
           clear HB
           have HO266 := n0_
           have HO270 := n1_
           have HB := n2_
           clear n0_ n1_ n2_
           clear hb ho23
           refine hK.out _ _ ⟨Go.Proofs.Ytgcpbaipdpchfaa.H.cell_b (by repeat (first | (with_reducible first | exact HB.out | apply below_alloc | apply pw_below_drewN | apply below_drew1) | exact HB.out)) HG1_.out, Go.Proofs.Ytgcpbaipdpchfaa.H.cell_b (by repeat (first | (with_reducible first | exact HB.out | apply below_alloc | apply pw_below_drewN | apply below_drew1) | exact HB.out)) HG2_.out, ((HB.out.cell (World.block_lt_of_cell? w _ hw267_0)).trans hw267_0), ((HB.out.cell (World.block_lt_of_cell? w _ hw267_1)).trans hw267_1)⟩ (fun hHeld => ?_)
           clear hK K
           refine norm_ (a' := ?_) ?_ ?_
           rotate_left
           ·show Act.put _ (some 46) _ = _
            simp only [Act.put, List.setIfInBounds_toArray, List.set_cons_zero, List.set_cons_succ, i64_w, i32_w]
            rfl
           exact norm_ (by simp only [putAll, Act.put, List.setIfInBounds_toArray, List.set_cons_zero, List.set_cons_succ]) (hCont (v265, v269) _ ⟨hHeld, (by (with_reducible repeat (first | apply Kd.R_alloc | apply Kd.R_drewN | apply Kd.R_drew)); exact Kd.R_mono HO266.out (fun _ hk => hk.2)), (by (with_reducible repeat (first | apply Kd.R_alloc | apply Kd.R_drewN | apply Kd.R_drew)); exact Kd.R_mono HO270.out (fun _ hk => hk.2)), (by repeat (first | (with_reducible first | exact HB.out | apply below_alloc | apply pw_below_drewN | apply below_drew1) | exact HB.out))⟩)
          ·skip
           refine Kd.R_lit_step k54 _ 54 ?hg (N := 46) ?hd (xs := ([(⟨(rd_T54 l4 x9_1).f0, (rd_T54 l4 x9_1).f1⟩ : S54)] : List (S54))) (inner := [.int .i64 ((rd_T54 l4 x9_1).f0), .int .i64 ((rd_T54 l4 x9_1).f1)]) (ok := fun _ => True) (okp := fun _ => True) ?hr ?hp (fun _ hk => hk) trivial (Below.refl _ _) (Nat.le_refl _) (by simp) ?_; (case hd => rfl); (case hg => rfl); (case hr => first | (go_simp; done) | (go_simp; rfl)); (case hp => exact (Reps.c2 (show Kd.M k54 _ _ _ (⟨(rd_T54 l4 x9_1).f0, (rd_T54 l4 x9_1).f1⟩ : S54) [.int .i64 ((rd_T54 l4 x9_1).f0), .int .i64 ((rd_T54 l4 x9_1).f1)] from (k54_mkM _ _ _ (⟨(rd_T54 l4 x9_1).f0, (rd_T54 l4 x9_1).f1⟩ : S54) )) (Reps.none _ _)))
           intro v269 w21 ho22 hb hg_ hnew_
           clear hg_ hnew_
           (first | rw [← Ny268.out] at ho22 | (simp only [Int.reduceToNat] at ho22; rw [← Ny268.out] at ho22))
           have n0_ := Aside0.mk (Kd.R_lower ho22 (below_size (by repeat (first | (with_reducible first | exact HB.out | apply below_alloc | apply pw_below_drewN | apply below_drew1) | exact HB.out))))
           have n1_ := Aside0.mk (below_step (by repeat (first | (with_reducible first | exact HB.out | apply below_alloc | apply pw_below_drewN | apply below_drew1) | exact HB.out)) hb)
           clear HB
           have HO270 := n0_
           have HB := n1_
           clear n0_ n1_
           clear hb ho22
           refine hK.out _ _ ⟨Go.Proofs.Ytgcpbaipdpchfaa.H.cell_b (by repeat (first | (with_reducible first | exact HB.out | apply below_alloc | apply pw_below_drewN | apply below_drew1) | exact HB.out)) HG1_.out, Go.Proofs.Ytgcpbaipdpchfaa.H.cell_b (by repeat (first | (with_reducible first | exact HB.out | apply below_alloc | apply pw_below_drewN | apply below_drew1) | exact HB.out)) HG2_.out, ((HB.out.cell (World.block_lt_of_cell? w _ hw267_0)).trans hw267_0), ((HB.out.cell (World.block_lt_of_cell? w _ hw267_1)).trans hw267_1)⟩ (fun hHeld => ?_)
           clear hK K
           refine norm_ (a' := ?_) ?_ ?_
           rotate_left
           ·show Act.put _ (some 46) _ = _
            simp only [Act.put, List.setIfInBounds_toArray, List.set_cons_zero, List.set_cons_succ, i64_w, i32_w]
            rfl
           refine one_ (i := 2) (N := some 41) #[true, true, true, true, true, true, true, true, false, true, true, true, true, true, false] rfl rfl (one_of HT_.out (by kernel_rfl)) (by decide) (fun K hK => ?_)
           refine goes_ Try.func111 (by kernel_rfl) rfl #[.slice A0 l0.length c0] (by rfl) rfl rfl (by (try simp only [List.map_toArray, List.map_cons, List.map_nil]); first | done | rfl | (simp only [List.length_drop, List.length_take]; rfl)) ?_
           with_reducible refine (impl_Call.calls _ _ l0 t264 _ ?side1 ?side2 A16.out).mono ?_
           (case side1 => repeat (first | exact (Kd.C_below HR0.out HB.out) | (with_reducible refine Kd.C_alloc ?_ _) | (with_reducible refine Kd.C_drewN ?_ _) | (with_reducible refine Kd.C_drew ?_)))
           (case side2 => exact HC0.out)
           rintro e w23 ⟨v265, rfl, ho0, hb⟩
           refine ⟨_, rfl, ?_⟩
           have n0_ := Aside0.mk (Kd.R_elder' (by (with_reducible repeat (first | apply Kd.R_alloc | apply Kd.R_drewN | apply Kd.R_drew)); exact HO270.out) (Kd.R_base ho0) hb)
           have n1_ := Aside0.mk (Kd.R_lower (Kd.R_new' ho0 (Kd.R_lt (by (with_reducible repeat (first | apply Kd.R_alloc | apply Kd.R_drewN | apply Kd.R_drew)); exact HO270.out))) (below_size (by repeat (first | (with_reducible first | exact HB.out | apply below_alloc | apply pw_below_drewN | apply below_drew1) | exact HB.out))))
           have n2_ := Aside0.mk (below_step (by repeat (first | (with_reducible first | exact HB.out | apply below_alloc | apply pw_below_drewN | apply below_drew1) | exact HB.out)) hb)
           clear HO270
           clear HB
           have HO270 := n0_
           have HO266 := n1_
           have HB := n2_
           clear n0_ n1_ n2_
           (try clear hb)
           (try clear hb2)
           (try clear hk)
           (try clear hi)
           (try clear ho0)
           refine hK.out _ _ ⟨Go.Proofs.Ytgcpbaipdpchfaa.H.cell_b (by repeat (first | (with_reducible first | exact HB.out | apply below_alloc | apply pw_below_drewN | apply below_drew1) | exact HB.out)) HG1_.out, Go.Proofs.Ytgcpbaipdpchfaa.H.cell_b (by repeat (first | (with_reducible first | exact HB.out | apply below_alloc | apply pw_below_drewN | apply below_drew1) | exact HB.out)) HG2_.out, ((HB.out.cell (World.block_lt_of_cell? w _ hw267_0)).trans hw267_0), ((HB.out.cell (World.block_lt_of_cell? w _ hw267_1)).trans hw267_1)⟩ (fun hHeld => ?_)
           clear hK K
           refine norm_ (a' := ?_) ?_ ?_
           rotate_left
           ·show Act.put _ (some 41) _ = _
            simp only [Act.put, List.setIfInBounds_toArray, List.set_cons_zero, List.set_cons_succ, i64_w, i32_w]
            rfl
           exact norm_ (by simp only [putAll, Act.put, List.setIfInBounds_toArray, List.set_cons_zero, List.set_cons_succ]) (hCont (v265, v269) _ ⟨hHeld, (by (with_reducible repeat (first | apply Kd.R_alloc | apply Kd.R_drewN | apply Kd.R_drew)); exact Kd.R_mono HO266.out (fun _ hk => hk.2)), (by (with_reducible repeat (first | apply Kd.R_alloc | apply Kd.R_drewN | apply Kd.R_drew)); exact Kd.R_mono HO270.out (fun _ hk => hk.2)), (by repeat (first | (with_reducible first | exact HB.out | apply below_alloc | apply pw_below_drewN | apply below_drew1) | exact HB.out))⟩)
         rintro ⟨v265, v269⟩ w24 ⟨hS_, h0_, h1_, h2_⟩
         have n0_ : Aside0 (Kd.R k54 54 w24 w.heap.size (fun k_ => some k_ ≠ (v269 : Value).ownBlock) v265 t264) := ⟨h0_⟩
         have n1_ : Aside0 (Kd.R k54 54 w24 w.heap.size (fun k_ => some k_ ≠ (v265 : Value).ownBlock) v269 y268) := ⟨h1_⟩
         have n2_ : Aside0 (Below w.heap.size w w24) := ⟨h2_⟩
         clear HB
         clear h0_ h1_ h2_
         have HO266 := n0_
         have HO270 := n1_
         have HB := n2_
         clear n0_ n1_ n2_
         have hHeld := hS_
         obtain ⟨Ao26, co26, eo26⟩ := Kd.R_slice HO270.out
         (first | subst eo26 | (injection eo26 with f1_ f2_ f3_; have f4_ := f1_.symm; have f5_ := f3_.symm; clear f1_ f2_ f3_; subst f4_; subst f5_))
         refine norm_ (a' := ?_) ?_ ?_
         rotate_left
         ·simp only [putAll, Act.put, List.setIfInBounds_toArray, List.set_cons_zero, List.set_cons_succ]
          rfl
         refine one_ (i := 8) (N := some 47) #[true, true, true, true, true, true, true, true, true, true, true, true, true, true, false] rfl rfl (one_of HT_.out (by kernel_rfl)) (by decide) (fun K hK => ?_)
         refine Kd.R_append_rows_step k54 (w0 := w) w.heap.size (by rfl) (.tmp 41) (.tmp 46) 31 54 (.agg #[(.int .i64 0), (.int .i64 0)]) 16 rfl Try.underlying31 info54 rfl (by decide) (by omega) v265 t264 y268 _ _ _ (fun k_ => some k_ ≠ (.slice Ao26 y268.length co26 : Value).ownBlock) (fun _ => False) rfl rfl ?aO ?aR (fun _ _ h => h) (fun _ h => h.elim) ?aF ?aB ?aS ?aL ?_
         (case aR => repeat (first | exact (Kd.R_reads' HO270.out).2.2 | (with_reducible refine Kd.C_alloc ?_ _) | (with_reducible refine Kd.C_drewN ?_ _) | (with_reducible refine Kd.C_drew ?_)))
         (case aB => exact (by repeat (first | (with_reducible first | exact HB.out | apply below_alloc | apply pw_below_drewN | apply below_drew1) | exact HB.out)))
         (case aF => exact (fun k_ hk => Kd.fresh' (Kd.R_lt (by (with_reducible repeat (first | apply Kd.R_alloc | apply Kd.R_drewN | apply Kd.R_drew)); exact HO270.out)) k_ hk))
         (case aO => exact (by (with_reducible repeat (first | apply Kd.R_alloc | apply Kd.R_drewN | apply Kd.R_drew)); exact HO266.out))
         (case aS => exact (below_size (by repeat (first | (with_reducible first | exact HB.out | apply below_alloc | apply pw_below_drewN | apply below_drew1) | exact HB.out))))
         (case aL => have := LMc17.out; omega)
         intro v272 w25 ho hb hg hat
         rw [← Ny271.out] at ho
         have n0_ := Aside0.mk (Kd.R_after (ok := (fun _ => True)) (by (with_reducible repeat (first | apply Kd.R_alloc | apply Kd.R_drewN | apply Kd.R_drew)); exact Kd.R_mono HO270.out (fun _ hk => ⟨trivial, hk⟩)) hg hat)
         have n1_ := Aside0.mk (hb)
         have n2_ := Aside0.mk (ho)
         clear HO270
         clear HB
         clear HO266
         have HO270 := n0_
         have HB := n1_
         have HO273 := n2_
         clear n0_ n1_ n2_
         clear ho hb hg hat
         obtain ⟨Ao27, co27, eo27⟩ := Kd.R_slice HO273.out
         (first | subst eo27 | (injection eo27 with f1_ f2_ f3_; have f4_ := f1_.symm; have f5_ := f3_.symm; clear f1_ f2_ f3_; subst f4_; subst f5_))
         refine hK.out _ _ ⟨Go.Proofs.Ytgcpbaipdpchfaa.H.cell_b (by repeat (first | (with_reducible first | exact HB.out | apply below_alloc | apply pw_below_drewN | apply below_drew1) | exact HB.out)) HG1_.out, Go.Proofs.Ytgcpbaipdpchfaa.H.cell_b (by repeat (first | (with_reducible first | exact HB.out | apply below_alloc | apply pw_below_drewN | apply below_drew1) | exact HB.out)) HG2_.out, ((HB.out.cell (World.block_lt_of_cell? w _ hw267_0)).trans hw267_0), ((HB.out.cell (World.block_lt_of_cell? w _ hw267_1)).trans hw267_1)⟩ (fun hHeld => ?_)
         clear hK K
         refine norm_ (a' := ?_) ?_ ?_
         rotate_left
         ·show Act.put _ (some 47) _ = _
          simp only [Act.put, List.setIfInBounds_toArray, List.set_cons_zero, List.set_cons_succ, i64_w, i32_w]
          rfl
         refine one_ (i := 14) (N := some 53) #[true, true, true, true, true, true, true, true, true, true, true, true, true, true, true] rfl rfl (one_of HT_.out (by kernel_rfl)) (by decide) (fun K hK => ?_)
         refine Go.Proofs.Ytgcpbaipdpchfaa.H.goesW_ (Operand.tmp 39) Try.func120 (by kernel_rfl) rfl #[.slice Ao27 y271.length co27, .int .i64 (wrap64 (x9_1 + 1)), .int .u16 (Go.bits .or .u16 a2 (Go.bits .or .u16 (ji12) (ji14)))] #[.pointer (some ⟨g0_, 0, none⟩), .pointer (some ⟨g1_, 0, none⟩), .pointer (some ⟨g2_, 0, none⟩)] #[.slice Ao27 y271.length co27, .int .i64 (wrap64 (x9_1 + 1)), .int .u16 (Go.bits .or .u16 a2 (Go.bits .or .u16 (ji12) (ji14))), .pointer (some ⟨g0_, 0, none⟩), .pointer (some ⟨g1_, 0, none⟩), .pointer (some ⟨g2_, 0, none⟩)] (by rfl) rfl rfl rfl rfl (by (try simp only [List.map_toArray, List.map_cons, List.map_nil]); first | done | (simp only [hji12, hji14]; rfl) | rfl | (simp only [List.length_drop, List.length_take]; rfl)) ?_
         with_reducible refine (ih k1 (by have := HK1.out; omega) B_ _ _ y271 (wrap64 (x9_1 + 1)) (Go.bits .or .u16 a2 (Go.bits .or .u16 (ji12) (ji14))) vr o_1 (some ad262) c4 l4 a5 o_2 _ g0_ g1_ g2_ ?sB ?sg ?sO ?sL ?s4 HC4.out ?n1 ?n2 ?c1 ?c2 A18.out).mono ?_
         (case sB => exact Nat.le_trans HI.out.hB (Nat.le_trans HI.out.fr.size (below_size (by repeat (first | (with_reducible first | exact HB.out | apply below_alloc | apply pw_below_drewN | apply below_drew1) | exact HB.out)))))
         (case sg => exact (HI.out.below (by repeat (first | (with_reducible first | exact HB.out | apply below_alloc | apply pw_below_drewN | apply below_drew1) | exact HB.out))).g)
         (case sO => exact Kd.S_mono (Kd.S_below (Kd.S_bound HI.out.S) (by repeat (first | (with_reducible first | exact HB.out | apply below_alloc | apply pw_below_drewN | apply below_drew1) | exact HB.out))) (fun k_ hk_ => ⟨hk_.1, fun he_ => by have h1_ := Kd.R_base HO273.out k_ he_.symm; have h2_ := hk_.2.2.1; omega⟩))
         (case sL => exact Kd.R_lower (Kd.R_mono (Kd.R_bound HO273.out) (fun k_ hk_ => ⟨fun he_ => by have h1_ := blk_lt HI.out.g; have h2_ := hk_.2.1; omega, fun he_ => by have h1_ := Kd.S_lt HI.out.S k_ he_.symm; have h2_ := hk_.2.1; omega⟩)) (Nat.le_trans HI.out.hB HI.out.fr.size))
         (case s4 => exact (HI.out.below (by repeat (first | (with_reducible first | exact HB.out | apply below_alloc | apply pw_below_drewN | apply below_drew1) | exact HB.out))).C)
         (case n1 => exact HI.out.n1)
         (case n2 => exact HI.out.n2)
         (case c1 => exact (HI.out.below (by repeat (first | (with_reducible first | exact HB.out | apply below_alloc | apply pw_below_drewN | apply below_drew1) | exact HB.out))).c1)
         (case c2 => exact (HI.out.below (by repeat (first | (with_reducible first | exact HB.out | apply below_alloc | apply pw_below_drewN | apply below_drew1) | exact HB.out))).c2)
         rintro e w28 ⟨rfl, v2_, q1_, q2_, q3_, q4_⟩
         refine ⟨_, rfl, ?_⟩
         have HI2 := Aside0.mk ((HI.out.below (by repeat (first | (with_reducible first | exact HB.out | apply below_alloc | apply pw_below_drewN | apply below_drew1) | exact HB.out))).call q1_ q2_ q3_ q4_)
         clear HO270 HO273 HB q1_ q2_ q3_ q4_
         have hC28 := Kd.F_now HI2.out.C
         obtain ⟨ad28, e28, f28_0, f28_1⟩ := at_T54 hC28 x9_1 (of_eq_true p267) (of_eq_true q267)
         obtain rfl : ad262 = ad28 := (by injection e28)
         refine hK.out _ _ ⟨HI2.out.c1, HI2.out.c2, f28_0, f28_1⟩ (fun hHeld => ?_)
         clear hK K
         refine norm_ (a' := ?_) ?_ ?_
         rotate_left
         ·show Act.put _ (some 53) _ = _
          simp only [Act.put, List.setIfInBounds_toArray, List.set_cons_zero, List.set_cons_succ, i64_w, i32_w]
          rfl
         refine done_ (done_of HT_.out (by kernel_rfl)) ?_
         try go_wp2
         go_roundg k1
         case measure => have := HK1.out; omega
         case rel => exact ⟨(wrap64 (x9_1 + 1)), v2_, o_2, (by first | rfl | (simp; done) | (simp [*]; done)), H', ⟨by have := HK1.out; omega⟩, ⟨by first | exact HI2.out | exact HI2.out.below (by repeat (first | exact Below.refl _ _ | apply below_alloc | apply pw_below_drewN | apply below_drew1))⟩⟩
        ·rw [if_neg c17] at H
         exact absurd H (by simp)
       ·rw [if_neg c15] at H
        have c15b0 : ((Go.bits .and .u16 a2 (Go.bits .or .u16 (ji12) (ji14))) == 0) = false := beq_eq_false_iff_ne.mpr c15
        have c15b1 : ((Go.bits .and .u16 a2 (Go.bits .or .u16 (ji12) (ji14))) != 0) = true := bne_iff_ne.mpr c15
        have H' := Aside0.mk H
        clear H
        try go_wp2
        have n0_ := Aside0.mk (below_drew1 HB.out)
        clear HB
        have HB := n0_
        clear n0_
        have p262 : 0 ≤ (x9_1 : Int) := of_decide_eq_true (by first | (with_reducible assumption) | assumption)
        have q262 : x9_1 < (l4.length : Int) := of_decide_eq_true (by first | (with_reducible assumption) | assumption)
        obtain ⟨ad262, e262, hx262_0, hx262_1⟩ := at_T54 HR4.out x9_1 p262 q262
        have hw262_1 := hx262_1
        have hw262_0 := hx262_0
        cases e262
        replace hx262_0 := (HB.out.cell (World.block_lt_of_cell? w _ hx262_0)).trans hx262_0
        replace hx262_1 := (HB.out.cell (World.block_lt_of_cell? w _ hx262_1)).trans hx262_1
        replace p262 := eq_true p262
        replace q262 := eq_true q262
        have p263 : 0 ≤ (x9_1 : Int) := of_decide_eq_true (by first | (with_reducible assumption) | assumption)
        have q263 : x9_1 < (l4.length : Int) := of_decide_eq_true (by first | (with_reducible assumption) | assumption)
        obtain ⟨ad263, e263, hx263_0, hx263_1⟩ := at_T54 HR4.out x9_1 p263 q263
        have hw263_1 := hx263_1
        have hw263_0 := hx263_0
        obtain rfl : ad262 = ad263 := (by injection e263)
        replace hx263_0 := (HB.out.cell (World.block_lt_of_cell? w _ hx263_0)).trans hx263_0
        replace hx263_1 := (HB.out.cell (World.block_lt_of_cell? w _ hx263_1)).trans hx263_1
        replace p263 := eq_true p263
        replace q263 := eq_true q263
        refine start_ (n := 14) (S := fun w' => w'.cell? ⟨g1_, 0, none⟩ = some (.slice (some ad262) l4.length c4) ∧ w'.cell? ⟨g2_, 0, none⟩ = some (.func (.func 120) #[] #[.pointer (some ⟨g0_, 0, none⟩), .pointer (some ⟨g1_, 0, none⟩), .pointer (some ⟨g2_, 0, none⟩)]) ∧ w'.cell? (ad262.add ((x9_1).toNat * 2)) = some (.int .i64 ((rd_T54 l4 x9_1).f0)) ∧ w'.cell? ⟨(ad262.add ((x9_1).toNat * 2)).block, (ad262.add ((x9_1).toNat * 2)).off + 1, none⟩ = some (.int .i64 ((rd_T54 l4 x9_1).f1)) ∧ w'.cell? (ad262.add ((x9_1).toNat * 2)) = some (.int .i64 ((rd_T54 l4 x9_1).f0)) ∧ w'.cell? ⟨(ad262.add ((x9_1).toNat * 2)).block, (ad262.add ((x9_1).toNat * 2)).off + 1, none⟩ = some (.int .i64 ((rd_T54 l4 x9_1).f1))) (ds := []) #[false, false, false, false, false, false, false, false, false, false, false, false, false, false] (by kernel_rfl) rfl rfl ⟨Go.Proofs.Ytgcpbaipdpchfaa.H.cell_b (by repeat (first | (with_reducible first | exact HB.out | apply below_alloc | apply pw_below_drewN | apply below_drew1) | exact HB.out)) HG1_.out, Go.Proofs.Ytgcpbaipdpchfaa.H.cell_b (by repeat (first | (with_reducible first | exact HB.out | apply below_alloc | apply pw_below_drewN | apply below_drew1) | exact HB.out)) HG2_.out, ((HB.out.cell (World.block_lt_of_cell? w _ hw262_0)).trans hw262_0), ((HB.out.cell (World.block_lt_of_cell? w _ hw262_1)).trans hw262_1), ((HB.out.cell (World.block_lt_of_cell? w _ hw263_0)).trans hw263_0), ((HB.out.cell (World.block_lt_of_cell? w _ hw263_1)).trans hw263_1)⟩ (fun hHeld => ?_); refine with_tabW impl_matchingsLit1.tab4 impl_matchingsLit1.bits4 (fun HT_ HW_ => ?_)
        generalize wr.drew = w29 at HB hx262_0 hx262_1 hx263_0 hx263_1 hHeld ⊢
        refine take_ (i := 0) (N := some 22) (v := ?_) (a' := ?_) #[true, false, false, false, false, false, false, false, false, false, false, false, false, false] rfl rfl (take_ofW HT_.out HW_.out (by kernel_rfl)) (fun _ _ _ h => h) (Or.inl ⟨by rfl, ?_⟩) hHeld ?_ ?_
        rotate_left
        ·rintro w' ⟨t1_, t2_, s0, s1, s2, s3⟩
         go_simp
         with_reducible rfl
        (rotate_left; simp only [Act.put, List.setIfInBounds_toArray, List.set_cons_zero, List.set_cons_succ, i64_w, i32_w]; rfl)
        refine pure_ (i := 1) (N := some 23) (v := ?_) (a' := ?_) #[true, true, false, false, false, false, false, false, false, false, false, false, false, false] rfl rfl (any_of HT_.out (by kernel_rfl)) (fun _ _ _ h => h) (Or.inl ⟨by rfl, ?_⟩) ?_ ?_
        (rotate_left; intro w'; go_simp; with_reducible rfl; rotate_left; simp only [Act.put, List.setIfInBounds_toArray, List.set_cons_zero, List.set_cons_succ, i64_w, i32_w]; rfl)
        refine pure_ (i := 2) (N := some 24) (v := ?_) (a' := ?_) #[true, true, true, false, false, false, false, false, false, false, false, false, false, false] rfl rfl (any_of HT_.out (by kernel_rfl)) (fun _ _ _ h => h) (Or.inl ⟨by rfl, ?_⟩) ?_ ?_
        (rotate_left; intro w'; go_simp; with_reducible rfl; rotate_left; simp only [Act.put, List.setIfInBounds_toArray, List.set_cons_zero, List.set_cons_succ, i64_w, i32_w]; rfl)
        refine pure_ (i := 3) (N := some 25) (v := ?_) (a' := ?_) #[true, true, true, true, false, false, false, false, false, false, false, false, false, false] rfl rfl (any_of HT_.out (by kernel_rfl)) (fun _ _ _ h => h) (Or.inl ⟨by rfl, ?_⟩) ?_ ?_
        (rotate_left; intro w'; go_simp; with_reducible rfl; rotate_left; simp only [Act.put, List.setIfInBounds_toArray, List.set_cons_zero, List.set_cons_succ, i64_w, i32_w]; rfl)
        refine take_ (i := 6) (N := some 28) (v := ?_) (a' := ?_) #[true, true, true, true, false, false, true, false, false, false, false, false, false, false] rfl rfl (take_ofW HT_.out HW_.out (by kernel_rfl)) (fun _ _ _ h => h) (Or.inl ⟨by rfl, ?_⟩) hHeld ?_ ?_
        rotate_left
        ·rintro w' ⟨t1_, t2_, s0, s1, s2, s3⟩
         go_simp
         with_reducible rfl
        (rotate_left; simp only [Act.put, List.setIfInBounds_toArray, List.set_cons_zero, List.set_cons_succ, i64_w, i32_w]; rfl)
        refine pure_ (i := 7) (N := some 29) (v := ?_) (a' := ?_) #[true, true, true, true, false, false, true, true, false, false, false, false, false, false] rfl rfl (any_of HT_.out (by kernel_rfl)) (fun _ _ _ h => h) (Or.inl ⟨by rfl, ?_⟩) ?_ ?_
        (rotate_left; intro w'; go_simp; with_reducible rfl; rotate_left; simp only [Act.put, List.setIfInBounds_toArray, List.set_cons_zero, List.set_cons_succ, i64_w, i32_w]; rfl)
        refine pure_ (i := 8) (N := some 30) (v := ?_) (a' := ?_) #[true, true, true, true, false, false, true, true, true, false, false, false, false, false] rfl rfl (any_of HT_.out (by kernel_rfl)) (fun _ _ _ h => h) (Or.inl ⟨by rfl, ?_⟩) ?_ ?_
        (rotate_left; intro w'; go_simp; with_reducible rfl; rotate_left; simp only [Act.put, List.setIfInBounds_toArray, List.set_cons_zero, List.set_cons_succ, i64_w, i32_w]; rfl)
        refine pure_ (i := 9) (N := some 31) (v := ?_) (a' := ?_) #[true, true, true, true, false, false, true, true, true, true, false, false, false, false] rfl rfl (any_of HT_.out (by kernel_rfl)) (fun _ _ _ h => h) (Or.inl ⟨by rfl, ?_⟩) ?_ ?_
        (rotate_left; intro w'; go_simp; with_reducible rfl; rotate_left; simp only [Act.put, List.setIfInBounds_toArray, List.set_cons_zero, List.set_cons_succ, i64_w, i32_w]; rfl)
        refine take_ (i := 4) (N := some 26) (v := ?_) (a' := ?_) #[true, true, true, true, true, false, true, true, true, true, false, false, false, false] rfl rfl (take_ofW HT_.out HW_.out (by kernel_rfl)) (fun _ _ _ h => h) (Or.inl ⟨by rfl, ?_⟩) hHeld ?_ ?_
        rotate_left
        ·rintro w' ⟨t1_, t2_, s0, s1, s2, s3⟩
         go_simp
         with_reducible rfl
        (rotate_left; simp only [Act.put, List.setIfInBounds_toArray, List.set_cons_zero, List.set_cons_succ, i64_w, i32_w]; rfl)
        refine pure_ (i := 5) (N := some 27) (v := ?_) (a' := ?_) #[true, true, true, true, true, true, true, true, true, true, false, false, false, false] rfl rfl (any_of HT_.out (by kernel_rfl)) (fun _ _ _ h => h) (Or.inl ⟨by rfl, ?_⟩) ?_ ?_
        (rotate_left; intro w'; go_simp; with_reducible rfl; rotate_left; simp only [Act.put, List.setIfInBounds_toArray, List.set_cons_zero, List.set_cons_succ, i64_w, i32_w]; rfl)
        refine take_ (i := 10) (N := some 32) (v := ?_) (a' := ?_) #[true, true, true, true, true, true, true, true, true, true, true, false, false, false] rfl rfl (take_ofW HT_.out HW_.out (by kernel_rfl)) (fun _ _ _ h => h) (Or.inl ⟨by rfl, ?_⟩) hHeld ?_ ?_
        rotate_left
        ·rintro w' ⟨t1_, t2_, s0, s1, s2, s3⟩
         go_simp
         with_reducible rfl
        (rotate_left; simp only [Act.put, List.setIfInBounds_toArray, List.set_cons_zero, List.set_cons_succ, i64_w, i32_w]; rfl)
        refine pure_ (i := 11) (N := some 33) (v := ?_) (a' := ?_) #[true, true, true, true, true, true, true, true, true, true, true, true, false, false] rfl rfl (any_of HT_.out (by kernel_rfl)) (fun _ _ _ h => h) (Or.inl ⟨by rfl, ?_⟩) ?_ ?_
        (rotate_left; intro w'; go_simp; with_reducible rfl; rotate_left; simp only [Act.put, List.setIfInBounds_toArray, List.set_cons_zero, List.set_cons_succ, i64_w, i32_w]; rfl)
        refine pure_ (i := 12) (N := some 34) (v := ?_) (a' := ?_) #[true, true, true, true, true, true, true, true, true, true, true, true, true, false] rfl rfl (any_of HT_.out (by kernel_rfl)) (fun _ _ _ h => h) (Or.inl ⟨by rfl, ?_⟩) ?_ ?_
        (rotate_left; intro w'; go_simp; with_reducible rfl; rotate_left; simp only [Act.put, List.setIfInBounds_toArray, List.set_cons_zero, List.set_cons_succ, i64_w, i32_w]; rfl)
        refine pure_ (i := 13) (N := some 10) (v := ?_) (a' := ?_) #[true, true, true, true, true, true, true, true, true, true, true, true, true, true] rfl rfl (any_of HT_.out (by kernel_rfl)) (fun _ _ _ h => h) (Or.inl ⟨by rfl, ?_⟩) ?_ ?_
        (rotate_left; intro w'; go_simp; with_reducible rfl; rotate_left; simp only [Act.put, List.setIfInBounds_toArray, List.set_cons_zero, List.set_cons_succ, i64_w, i32_w]; rfl)
        refine done_ (done_of HT_.out (by kernel_rfl)) ?_
        try go_wp2
        go_roundg k1
        case measure => have := HK1.out; omega
        case rel => exact ⟨(wrap64 (x9_1 + 1)), vr, o_1, (by first | rfl | (simp; done) | (simp [*]; done)), H', ⟨by have := HK1.out; omega⟩, ⟨HI.out.below (by repeat (first | (with_reducible first | exact HB.out | apply below_alloc | apply pw_below_drewN | apply below_drew1) | exact HB.out))⟩⟩
      ·rw [if_neg c13] at H
       exact absurd H (by simp)
     ·rw [if_neg c11] at H
      exact absurd H (by simp)
    ·rw [if_neg c10] at H
     exact absurd H (by simp)
   ·rw [if_neg c9] at H
    have c9b0 : decide (x9_1 < (l4.length : Int)) = false := decide_eq_false c9
    clear c9
    obtain rfl := Option.some.inj H
    go_wp2
    first | go_end0 | ((try simp only [Exit.inBlock, Exit.then]); refine bodyPost_ret (results_none rfl _ _ _) rfl ?_)
    have HIE := HI.out.below (by repeat (first | (with_reducible first | exact HB.out | apply below_alloc | apply pw_below_drewN | apply below_drew1) | exact HB.out))
    exact ⟨by first | rfl | (simp <;> rfl), vr, HIE.g, HIE.S, HIE.fresh, HIE.fr⟩

/-! ### impl_matchings: OURS: function 113 -/
def impl_matchings.f (k : Nat) (l0 : List (S54)) : Option (List (List (S54))) := impl_matchingsLit1.f k [] 0 0 [] l0 0
theorem impl_matchings.mono : ∀ a0 k, LeO (impl_matchings.f k a0) (impl_matchings.f (k + 1) a0) := fun a0 k => impl_matchingsLit1.mono _ _ _ _ _ _ k
set_option maxHeartbeats 4000000 in
set_option maxRecDepth 100000 in
theorem impl_matchings.calls (k : Nat) (A0 : Option Addr) (c0 : Nat) (l0 : List (S54)) (r : List (List (S54))) (w : World) (hr0 : Kd.C k54 w A0 l0.length l0) (hc0 : l0.length ≤ c0) (h : impl_matchings.f k l0 = some r) :
    Calls Try.prog 113 #[.slice A0 l0.length c0] w fun e w' => ∃ v0_ : Value, e = .returned (v0_) ∧ Kd.S (Kd.slice 54 k54) 31 w' w.heap.size (fun _ => True) v0_ r ∧ Below w.heap.size w w' := by
  have hu54 := Try.underlying54
  have HF := Aside0.mk (Kd.C_F (Kd.heap_iso _ (Kd.heap_pair (Kd.heap_int _) (Kd.heap_int _))) hr0)
  have HC := Aside0.mk hc0
  have HH := Aside0.mk h
  clear hr0 hc0 h
  go_enter Try.func113, Try.ntmps113
  go_wp2_with fail
  obtain ⟨W, hW⟩ : ∃ W, W = (((((w.alloc (.cells #[.slice A0 l0.length c0] 31)).alloc (.cells #[] 31)).alloc (.cells #[.slice (some ⟨w.heap.size + 1, 0, none⟩) 0 0] 22)).alloc (.cells #[.func (.func 120) #[] #[.pointer (some ⟨w.heap.size + 1 + 1, 0, none⟩), .pointer (some ⟨w.heap.size, 0, none⟩), .pointer (some ⟨w.heap.size + 1 + 1 + 1, 0, none⟩)]] 129)).alloc (.cells #[] 54)) := ⟨_, rfl⟩
  have hsz : W.heap.size = w.heap.size + 5 := by rw [hW]; simp
  have b0 : W.heap[w.heap.size]? = some (.cells #[.slice A0 l0.length c0] 31 (0, 0)) := by rw [hW]; exact blk_alloc (blk_alloc (blk_alloc (blk_alloc (blk_new w _) _) _) _) _
  have b1 : W.heap[w.heap.size + 1]? = some (.cells #[] 31 (0, 0)) := by
    have := blk_alloc (blk_alloc (blk_alloc (blk_new (w.alloc (.cells #[.slice A0 l0.length c0] 31)) (.cells #[] 31)) (.cells #[.slice (some ⟨w.heap.size + 1, 0, none⟩) 0 0] 22)) (.cells #[.func (.func 120) #[] #[.pointer (some ⟨w.heap.size + 1 + 1, 0, none⟩), .pointer (some ⟨w.heap.size, 0, none⟩), .pointer (some ⟨w.heap.size + 1 + 1 + 1, 0, none⟩)]] 129)) (.cells #[] 54)
    rw [World.size_alloc] at this
    rw [hW]; exact this
  have b2 : W.heap[w.heap.size + 1 + 1]? = some (.cells #[.slice (some ⟨w.heap.size + 1, 0, none⟩) 0 0] 22 (0, 0)) := by
    have := blk_alloc (blk_alloc (blk_new ((w.alloc (.cells #[.slice A0 l0.length c0] 31)).alloc (.cells #[] 31)) (.cells #[.slice (some ⟨w.heap.size + 1, 0, none⟩) 0 0] 22)) (.cells #[.func (.func 120) #[] #[.pointer (some ⟨w.heap.size + 1 + 1, 0, none⟩), .pointer (some ⟨w.heap.size, 0, none⟩), .pointer (some ⟨w.heap.size + 1 + 1 + 1, 0, none⟩)]] 129)) (.cells #[] 54)
    rw [World.size_alloc, World.size_alloc] at this
    rw [hW]; exact this
  have b3 : W.heap[w.heap.size + 1 + 1 + 1]? = some (.cells #[.func (.func 120) #[] #[.pointer (some ⟨w.heap.size + 1 + 1, 0, none⟩), .pointer (some ⟨w.heap.size, 0, none⟩), .pointer (some ⟨w.heap.size + 1 + 1 + 1, 0, none⟩)]] 129 (0, 0)) := by
    have := blk_alloc (blk_new (((w.alloc (.cells #[.slice A0 l0.length c0] 31)).alloc (.cells #[] 31)).alloc (.cells #[.slice (some ⟨w.heap.size + 1, 0, none⟩) 0 0] 22)) (.cells #[.func (.func 120) #[] #[.pointer (some ⟨w.heap.size + 1 + 1, 0, none⟩), .pointer (some ⟨w.heap.size, 0, none⟩), .pointer (some ⟨w.heap.size + 1 + 1 + 1, 0, none⟩)]] 129)) (.cells #[] 54)
    rw [World.size_alloc, World.size_alloc, World.size_alloc] at this
    rw [hW]; exact this
  have b4 : W.heap[w.heap.size + 1 + 1 + 1 + 1]? = some (.cells #[] 54 (0, 0)) := by
    have := blk_new ((((w.alloc (.cells #[.slice A0 l0.length c0] 31)).alloc (.cells #[] 31)).alloc (.cells #[.slice (some ⟨w.heap.size + 1, 0, none⟩) 0 0] 22)).alloc (.cells #[.func (.func 120) #[] #[.pointer (some ⟨w.heap.size + 1 + 1, 0, none⟩), .pointer (some ⟨w.heap.size, 0, none⟩), .pointer (some ⟨w.heap.size + 1 + 1 + 1, 0, none⟩)]] 129)) (.cells #[] 54)
    rw [World.size_alloc, World.size_alloc, World.size_alloc, World.size_alloc] at this
    rw [hW]; exact this
  have hB : Below w.heap.size w W := by rw [hW]; repeat (first | exact Below.refl _ _ | apply below_alloc)
  have own1 : (Value.slice (some ⟨w.heap.size + 1, 0, none⟩) 0 0).ownBlock = some (w.heap.size + 1) := by simp [Value.ownBlock]
  have own4 : (Value.slice (some ⟨w.heap.size + 1 + 1 + 1 + 1, 0, none⟩) 0 0).ownBlock = some (w.heap.size + 1 + 1 + 1 + 1) := by simp [Value.ownBlock]
  have hS0 : Kd.S (Kd.slice 54 k54) 31 W w.heap.size (fun k => k ≠ w.heap.size + 1 + 1 ∧ some k ≠ (Value.slice (some ⟨w.heap.size + 1 + 1 + 1 + 1, 0, none⟩) ([] : List (S54)).length 0).ownBlock) (.slice (some ⟨w.heap.size + 1, 0, none⟩) 0 0) ([] : List (List (S54))) :=
    ⟨fun _ => 0, fun k hk => by
      rw [own1] at hk
      injection hk with hk
      subst hk
      exact ⟨by omega, by rw [List.length_nil, own4]; intro h9; injection h9 with h9; omega⟩, [], ⟨rfl, .inr ⟨w.heap.size + 1, 0, #[], rfl, by omega, b1, Nat.le_refl _, Nat.zero_le _, rfl, rfl⟩⟩, Reps.none _ _⟩
  have hL0 : Kd.R k54 54 W w.heap.size (fun k => k ≠ w.heap.size + 1 + 1 ∧ some k ≠ (Value.slice (some ⟨w.heap.size + 1, 0, none⟩) 0 0).ownBlock) (.slice (some ⟨w.heap.size + 1 + 1 + 1 + 1, 0, none⟩) ([] : List (S54)).length 0) ([] : List (S54)) :=
    ⟨fun k hk => by
      rw [List.length_nil, own4] at hk
      injection hk with hk
      subst hk
      exact ⟨by omega, by rw [own1]; intro h9; injection h9 with h9; omega⟩, [], ⟨rfl, .inr ⟨w.heap.size + 1 + 1 + 1 + 1, 0, #[], rfl, by omega, b4, Nat.le_refl _, Nat.zero_le _, rfl, rfl⟩⟩, Reps.none _ _⟩
  have hF0 : Kd.F k54 W (fun k => k ≠ w.heap.size + 1 + 1 ∧ (Value.slice (some ⟨w.heap.size + 1, 0, none⟩) 0 0).ownBlock ≠ some k) A0 l0.length l0 :=
    Kd.F_mono (Kd.F_below HF.out hB) (fun k hk => ⟨by omega, by rw [own1]; intro h9; injection h9 with h9; omega⟩)
  have hc := impl_matchingsLit1.calls k w.heap.size _ 0 ([] : List (S54)) 0 0 (.slice (some ⟨w.heap.size + 1, 0, none⟩) 0 0) [] A0 c0 l0 0 r W (w.heap.size + 1 + 1) w.heap.size (w.heap.size + 1 + 1 + 1) (by omega) b2 hS0 hL0 hF0 HC.out ⟨by omega, by rw [own1]; intro h9; injection h9 with h9; omega⟩ ⟨by omega, by rw [own1]; intro h9; injection h9 with h9; omega⟩ ((blk_cell b0 0).trans rfl) ((blk_cell b3 0).trans rfl) HH.out
  rw [← hW]
  have HB := Aside0.mk hB
  clear b0 b1 b2 b3 b4 hS0 hL0 hF0 hB hsz hW
  refine hc.mono ?_
  rintro e w2 ⟨rfl, v2, q1, q2, q3, q4⟩
  obtain ⟨A2, c2, hv2⟩ := Kd.S_slice q2
  obtain ⟨n2, hn2⟩ : ∃ n, n = r.length := ⟨_, rfl⟩
  rw [← hn2] at hv2
  clear hn2
  subst hv2
  have hx : w2.cell? ⟨w.heap.size + 1 + 1, 0, none⟩ = some (.slice A2 n2 c2) := (blk_cell q1 0).trans rfl
  have HS2 := Aside0.mk q2
  have hbl : Below w.heap.size w w2 := by
    refine HB.out.trans ⟨q4.os, q4.tape, q4.output, q4.size, fun k hk => q4.block k (Nat.lt_of_lt_of_le hk HB.out.size) (by omega) ?_⟩
    rw [own1]
    intro h9
    injection h9 with h9
    omega
  have HBL := Aside0.mk hbl
  clear q1 q2 q3 q4 hbl hc own1 own4
  go_wp2
  go_ret
  exact ⟨_, rfl, Kd.S_mono HS2.out (fun _ _ => trivial), HBL.out⟩


end Go.Proofs.Ytgcpbaipdpchfaa.PFnExactSpreadRounds
