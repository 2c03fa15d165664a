-- Written by the session's mkprint.py over the kit's print.py (function texts marked OURS are the session's own).
import Derived.Test.YtgcpbaipdpchfaaPFnExactKnownByRoundsx0
import Derived.Test.YtgcpbaipdpchfaaHBase
import Derived.Test.YtgcpbaipdpchfaaHContRow
import Derived.Test.YtgcpbaipdpchfaaPFnExactKnownByRoundsx13
import Derived.Test.YtgcpbaipdpchfaaPFnExactKnownByRoundsx16
namespace Go.Proofs.Ytgcpbaipdpchfaa.PFnExactKnownByRounds
open Go.RowKit Go.Proofs.YtgcpbaipdpchfaaW.PrintWords Go.Proofs.YtgcpbaipdpchfaaW.PrintLast Go.Proofs.YtgcpbaipdpchfaaW.PrintMore
attribute [local go_sem] max2_int min2_int max_two min_two max_three min_three max_four min_four   -- for this text's walks alone
set_option linter.unusedVariables false
set_option linter.unusedSimpArgs false

/-! ### impl_AreRounds: OURS: function 24 -/
theorem areFriends_f (n : Int) : impl_areFriends.f n = some (decide (1 ≤ n) && decide (n ≤ 10)) := by
 unfold impl_areFriends.f impl_within.f
 by_cases h1 : 1 ≤ n <;> by_cases h2 : n ≤ 10 <;> simp [h1, h2]
def impl_AreRounds.g (k : Nat) (n : Int) (x : List S54) : Option Bool := (impl_isRound.f k n x).bind fun b => some (!b)
def impl_AreRounds.f (k : Nat) (a0 : Int) (l1 : List (List S54)) : Option Bool := if 1 ≤ a0 ∧ a0 ≤ 10 ∧ l1.length ≤ 20 then (Go.Proofs.Ytgcpbaipdpchfaa.H.anyO (impl_AreRounds.g k a0) l1).bind fun b => some (!b) else some false
theorem impl_AreRounds.mono : ∀ a0 a1 k, LeO (impl_AreRounds.f k a0 a1) (impl_AreRounds.f (k + 1) a0 a1) := fun a0 a1 k => LeO.ite (LeO.bind (Go.Proofs.Ytgcpbaipdpchfaa.H.anyO_mono (fun x => LeO.bind (impl_isRound.mono _ _ _) (fun _ => LeO.refl _)) _) (fun _ => LeO.refl _)) (LeO.refl _)
set_option maxHeartbeats 1000000 in
set_option maxRecDepth 100000 in
theorem areRounds_lit (kq : Nat) (n : Int) (g : Nat) (w : World) (hg : w.heap[g]? = some (.cells #[.int .i64 n] 3 (0, 0))) :
  Go.Proofs.Ytgcpbaipdpchfaa.H.PredRow 52 #[.pointer (some ⟨g, 0, none⟩)] k54 (impl_AreRounds.g kq n) w := by
 intro W x A0 c0 r hb hC hl hr
 have hc0 : W.cell? ⟨g, 0, none⟩ = some (.int .i64 n) := by
  have h1 : w.cell? ⟨g, 0, none⟩ = some (.int .i64 n) := (blk_cell hg 0).trans rfl
  exact Go.Proofs.Ytgcpbaipdpchfaa.H.cell_b hb h1
 have hB := Aside0.mk hb
 clear hb hg
 show Calls _ _ #[.slice A0 x.length c0, .pointer (some ⟨g, 0, none⟩)] W fun e w' => e = .returned (.bool r) ∧ Below w.heap.size w w'
 obtain ⟨b, hb, hr⟩ := Option.bind_eq_some_iff.1 hr
 obtain rfl := Option.some.inj hr
 clear hr
 have hcall := fun W2 hx => impl_isRound.calls kq n A0 c0 x b W2 hx hl hb
 have HC := Aside0.mk hC
 clear hC hl hb
 go_enter Try.func52, Try.ntmps52
 go_wp2_with (go_at_call 53; refine (hcall _ HC.out).mono ?_; rintro e w' ⟨rfl, hb'⟩; have HB2 := Aside0.mk hb'; clear hb')
 go_ret
 exact ⟨rfl, below_step hB.out HB2.out⟩

set_option maxHeartbeats 1000000 in
set_option maxRecDepth 100000 in
theorem impl_AreRounds.calls (k : Nat) (a0 : Int) (A1 : Option Addr) (c1 : Nat) (l1 : List (List S54)) (r : Bool) (w : World) (hr1 : Kd.C (Kd.slice 54 k54) w A1 l1.length l1) (hc1 : l1.length ≤ c1) (h : impl_AreRounds.f k a0 l1 = some r) :
  Calls Try.prog 24 #[.int .i64 a0, .slice A1 l1.length c1] w fun e w' => e = .returned (.bool r) ∧ Below w.heap.size w w' := by
 have hmax : (l1.length : Int) ≤ 9223372036854775807 := by have := Kd.C_max hr1; omega
 have hF := fun W2 => impl_areFriends.calls a0 _ W2 (areFriends_f a0)
 by_cases h1 : 1 ≤ a0 ∧ a0 ≤ 10
 ·have e1 : (decide (1 ≤ a0) && decide (a0 ≤ 10)) = true := by simp [h1]
  rw [e1] at hF
  by_cases h2 : (l1.length : Int) ≤ 20
  ·unfold impl_AreRounds.f at h
   rw [if_pos ⟨h1.1, h1.2, by omega⟩] at h
   obtain ⟨q, hq, hr⟩ := Option.bind_eq_some_iff.1 h
   obtain rfl := Option.some.inj hr
   clear hr h
   have hlit := areRounds_lit k a0 w.heap.size
   have HR := Aside0.mk hr1
   clear hr1
   have eg := enters_of Try.func52 (by kernel_rfl) rfl
   have hcont := fun W2 hx hy => Go.Proofs.Ytgcpbaipdpchfaa.H.containsFuncRow (d := k54) (T := 54) (impl_AreRounds.g k a0) 52 #[.pointer (some ⟨w.heap.size, 0, none⟩)] eg A1 c1 l1 q W2 hx (hlit W2 hy) hq
   clear hlit hq
   have HCO := Aside0.mk hcont
   clear hcont
   go_enter Try.func24, Try.ntmps24
   go_wp2_with (first | (go_at_call 40; refine (hF _).mono ?_; rintro e w' ⟨rfl, ⟨nd, rfl⟩⟩) | (go_at_call 51; refine (HCO.out _ (Kd.C_drewN (Kd.C_alloc HR.out _) _) (blk_drewN (blk_new _ _) _)).mono ?_; rintro e w' ⟨rfl, hb'⟩))
   go_ret
   exact ⟨rfl, below_step (pw_below_drewN (below_alloc (Below.refl _ _) _) _) hb'⟩
  ·unfold impl_AreRounds.f at h
   rw [if_neg (fun hh => h2 (by omega))] at h
   obtain rfl := Option.some.inj h
   clear hr1 h
   go_enter Try.func24, Try.ntmps24
   go_wp2_with (go_at_call 40; refine (hF _).mono ?_; rintro e w' ⟨rfl, ⟨nd, rfl⟩⟩)
   go_ret
   exact ⟨rfl, pw_below_drewN (below_alloc (Below.refl _ _) _) _⟩
 ·have e1 : (decide (1 ≤ a0) && decide (a0 ≤ 10)) = false := by rw [Bool.eq_false_iff]; simpa using h1
  rw [e1] at hF
  unfold impl_AreRounds.f at h
  rw [if_neg (fun hh => h1 ⟨hh.1, hh.2.1⟩)] at h
  obtain rfl := Option.some.inj h
  clear hr1 h
  go_enter Try.func24, Try.ntmps24
  go_wp2_with (go_at_call 40; refine (hF _).mono ?_; rintro e w' ⟨rfl, ⟨nd, rfl⟩⟩)
  go_ret
  exact ⟨rfl, pw_below_drewN (below_alloc (Below.refl _ _) _) _⟩

/-! ### impl_first: function 87 -/
def impl_first.l0 : Nat → List Int → Int → Int → Option (List Int)
 | 0, _, _, _ => none
 | k + 1, x3, x6, x7 => if x7 < x6 then (if 0 ≤ x7 then (if x3.length < 70368744177664 then (impl_first.l0 k (x3 ++ [shl .u16 1 x7]) x6 (wrap64 (x7 + 1))) else (none)) else (none)) else (some x3)
def impl_first.f (k : Nat) (a0 : Int) : Option (List Int) := impl_first.l0 k (([] : List Int)) a0 0
theorem impl_first.mono_l : ∀ k, (∀ y0 y1 y2, LeO (impl_first.l0 k y0 y1 y2) (impl_first.l0 (k + 1) y0 y1 y2))
 | 0 => fun _ _ _ r h => by simp [impl_first.l0] at h
 | k + 1 => by
  have ih0 := impl_first.mono_l k
  ·intro y0 y1 y2
   unfold impl_first.l0
   repeat' first
   | (with_reducible exact ih0 _ _ _)
   | (with_reducible exact LeO.refl _)
   | (with_reducible exact LeO.none _)
   | (with_reducible refine LeO.ite ?_ ?_)
   | (with_reducible refine LeO.bind ?_ (fun _ => ?_))
   | exact ih0 _ _ _
   | exact LeO.none _
   | refine LeO.ite ?_ ?_
   | refine LeO.bind ?_ (fun _ => ?_)
theorem impl_first.mono : ∀ a0 k, LeO (impl_first.f k a0) (impl_first.f (k + 1) a0) := by
 intro a0 k
 have ih0 := impl_first.mono_l k
 unfold impl_first.f
 repeat' first
   | (with_reducible exact ih0 _ _ _)
   | (with_reducible exact LeO.refl _)
   | (with_reducible exact LeO.none _)
   | (with_reducible refine LeO.ite ?_ ?_)
   | (with_reducible refine LeO.bind ?_ (fun _ => ?_))
   | exact ih0 _ _ _
   | exact LeO.none _
   | refine LeO.ite ?_ ?_
   | refine LeO.bind ?_ (fun _ => ?_)
set_option maxHeartbeats 8000000 in
set_option maxRecDepth 100000 in
theorem impl_first.calls (k : Nat) (a0 : Int) (r : List Int) (w : World) (h : impl_first.f k a0 = some r) :
  Calls Try.prog 87 #[.int .i64 a0] w fun e w' => ∃ v0_ : Value, e = .returned (v0_) ∧ Kd.R (Kd.int .u16) 87 w' w.heap.size (fun _ => True) v0_ r ∧ Below w.heap.size w w' := by
 have HB := Aside0.mk (Below.refl w.heap.size w)
 have H : (impl_first.l0 k (([] : List Int)) a0 0) = some r := h
 clear h
 obtain ⟨y209, hy209⟩ : ∃ y_ : List Int, y_ = (([] : List Int)) := ⟨_, rfl⟩
 replace H : (impl_first.l0 k y209 a0 0) = some r := by first | (rw [hy209]; with_reducible exact H) | (have H2_ := (Option.bind_some _ _).symm.trans H; rw [hy209]; with_reducible exact H2_) | (have H2_ := (Option.bind_some _ _).symm.trans H; with_reducible exact H2_) | with_reducible exact H | (rw [hy209]; exact H) | exact H
 have Ny209 := Aside0.mk hy209
 clear hy209
 have H' := Aside0.mk H
 clear H
 go_enter Try.func87, Try.ntmps87
 go_wp2_with (first | ((with_reducible refine gate_dst (N := 5) rfl ?_); refine Kd.R_lit (Kd.int .u16) _ 87 ?hg (N := 5) ?hd (xs := ([] : List Int)) (inner := []) (ok := fun _ => True) (okp := fun _ => True) ?hr ?hp (fun _ hk => hk) trivial (Below.refl _ _) (Nat.le_refl _) (by simp) ?_; (case hd => rfl); (case hg => rfl); (case hr => first | (go_simp; done) | (go_simp; rfl)); (case hp => exact (Reps.none _ _)); intro v210 w2 ho3 hb hg_ hnew_; clear hg_ hnew_; (first | rw [← Ny209.out] at ho3 | (simp only [Int.reduceToNat] at ho3; rw [← Ny209.out] at ho3)); have n0_ := Aside0.mk (Kd.R_lower ho3 (below_size (by repeat (first | (with_reducible first | exact HB.out | apply below_alloc | apply pw_below_drewN | apply below_drew1) | exact HB.out)))); have n1_ := Aside0.mk (below_step (by repeat (first | (with_reducible first | exact HB.out | apply below_alloc | apply pw_below_drewN | apply below_drew1) | exact HB.out)) hb); clear HB; have HO211 := n0_; have HB := n1_; clear n0_ n1_; clear hb ho3))
 go_loopg [3, 7] k (fun kq v3 v7 w' => ∃ (x3_1 : List Int) (x7_1 : Int), v7 = .int .i64 x7_1 ∧ Aside0 (impl_first.l0 kq x3_1 a0 x7_1 = some r) ∧ Aside0 (kq ≤ k) ∧ Aside0 (Kd.R (Kd.int .u16) 87 w' w.heap.size (fun _ => True) v3 x3_1) ∧ Aside0 (Below w.heap.size w w'))
 case atStart => exact ⟨(y209), (0), (by first | rfl | (simp; done) | (simp [*]; done)), H', ⟨Nat.le_refl _⟩, ⟨by (with_reducible repeat (first | apply Kd.R_alloc | apply Kd.R_drewN | apply Kd.R_drew)); exact HO211.out⟩, ⟨by repeat (first | (with_reducible first | exact HB.out | apply below_alloc | apply pw_below_drewN | apply below_drew1) | exact HB.out)⟩⟩
 case round =>
  clear H'
  try clear p2
  obtain ⟨x3_1, x7_1, rfl, HA, HK1, HO_3, HB⟩ := hrel
  cases gk with
  | zero => exact absurd HA.out (by simp [impl_first.l0])
  | succ k1 =>
   have H := HA.out
   clear HA
   simp only [impl_first.l0] at H
   by_cases c4 : x7_1 < a0
   ·rw [if_pos c4] at H
    have c4b0 : decide (x7_1 < a0) = true := decide_eq_true c4
    clear c4
    by_cases c5 : 0 ≤ x7_1
    ·rw [if_pos c5] at H
     have c5b0 := eq_true c5
     have c5b1 : decide (0 ≤ x7_1) = true := decide_eq_true c5
     clear c5
     obtain ⟨ji6, hji6⟩ : ∃ j_ : Int, (shl .u16 1 x7_1) = j_ := ⟨_, rfl⟩
     replace H : (if x3_1.length < 70368744177664 then (impl_first.l0 k1 (x3_1 ++ [ji6]) a0 (wrap64 (x7_1 + 1))) else (none)) = some r := by first | (rw [hji6] at H; exact H) | (simp only [hji6] at H ⊢; exact H)
     have hji6_ : (IntKind.u16.wrap (1 * 2 ^ min x7_1.toNat 16)) = ji6 := hji6
     have hji6z : x7_1 ≤ 16 → (IntKind.u16.wrap (1 * 2 ^ x7_1.toNat)) = ji6 := shl_small hji6
     have hji6u : (IntKind.u16.wrap (2 ^ min x7_1.toNat 16)) = ji6 := by have h_ := hji6_; rw [Int.one_mul] at h_; exact h_
     have hji6v : x7_1 ≤ 16 → (IntKind.u16.wrap (2 ^ x7_1.toNat)) = ji6 := fun hle_ => by have h_ := hji6z hle_; rw [Int.one_mul] at h_; exact h_
     by_cases c7 : x3_1.length < 70368744177664
     ·rw [if_pos c7] at H
      have LMc7 := Aside0.mk c7
      clear c7
      obtain ⟨y212, hy212⟩ : ∃ y_ : List Int, y_ = (x3_1 ++ [ji6]) := ⟨_, rfl⟩
      replace H : (impl_first.l0 k1 y212 a0 (wrap64 (x7_1 + 1))) = some r := by first | (rw [hy212]; with_reducible exact H) | (have H2_ := (Option.bind_some _ _).symm.trans H; rw [hy212]; with_reducible exact H2_) | (have H2_ := (Option.bind_some _ _).symm.trans H; with_reducible exact H2_) | with_reducible exact H | (rw [hy212]; exact H) | exact H
      have Ny212 := Aside0.mk hy212
      clear hy212
      have H' := Aside0.mk H
      clear H
      go_wp2_with (first | ((with_reducible refine gate_builtin (b := .append) (xs := #[.tmp 10, .tmp 13]) rfl ?_); at_builtin; refine Kd.R_append (Kd.int .u16) (w0 := w) w.heap.size rfl (.tmp 10) (.tmp 13) 71 87 (.int .u16 0) 2 rfl Try.underlying71 info87 rfl (by decide) (by omega) u3 x3_1 ji6 [.int .u16 ji6] (fun _ => True) (fun _ => False) rfl rfl ?aP (fun _ hk => hk.elim) ?aF ?aO ?aB ?aS ?aL ?_; (case aP => exact rfl); (case aB => exact (by repeat (first | (with_reducible first | exact HB.out | apply below_alloc | apply pw_below_drewN | apply below_drew1) | exact HB.out))); (case aF => exact (fun _ _ => trivial)); (case aO => exact (by (with_reducible repeat (first | apply Kd.R_alloc | apply Kd.R_drewN | apply Kd.R_drew)); exact HO_3.out)); (case aS => exact (below_size (by repeat (first | (with_reducible first | exact HB.out | apply below_alloc | apply pw_below_drewN | apply below_drew1) | exact HB.out)))); (case aL => have := LMc7.out; omega); intro v213 w8 ho hb hg hat; rw [← Ny212.out] at ho; have n0_ := Aside0.mk (hb); have n1_ := Aside0.mk (ho); clear HB; clear HO_3; have HB := n0_; have HO214 := n1_; clear n0_ n1_; clear ho hb hg hat))
      go_roundg k1
      case measure => have := HK1.out; omega
      case rel => exact ⟨(y212), (wrap64 (x7_1 + 1)), (by first | rfl | (simp; done) | (simp [*]; done)), H', ⟨by have := HK1.out; omega⟩, ⟨by (with_reducible repeat (first | apply Kd.R_alloc | apply Kd.R_drewN | apply Kd.R_drew)); exact HO214.out⟩, ⟨by repeat (first | (with_reducible first | exact HB.out | apply below_alloc | apply pw_below_drewN | apply below_drew1) | exact HB.out)⟩⟩
     ·rw [if_neg c7] at H
      exact absurd H (by simp)
    ·rw [if_neg c5] at H
     exact absurd H (by simp)
   ·rw [if_neg c4] at H
    have c4b0 : decide (x7_1 < a0) = false := decide_eq_false c4
    clear c4
    obtain rfl := Option.some.inj H
    go_wp2
    go_ret
    exact ⟨_, by first | rfl | (simp [errW_none, errW_some] <;> rfl) | (simp [*, errW_none, errW_some] <;> rfl), by (with_reducible repeat (first | apply Kd.R_alloc | apply Kd.R_drewN | apply Kd.R_drew)); exact HO_3.out, by repeat (first | (with_reducible first | exact HB.out | apply below_alloc | apply pw_below_drewN | apply below_drew1) | exact HB.out)⟩

/-! ### impl_news_meet: function 88 -/
def impl_news_meet.f (l0 : List Int) (a1_0 : Int) (a1_1 : Int) : Option (List Int) := if 0 ≤ a1_0 then (if a1_0 < (l0.length : Int) then (if 0 ≤ a1_1 then (if a1_1 < (l0.length : Int) then (some ((l0.set (a1_0 : Int).toNat (Go.bits .or .u16 (rd l0 a1_0) (rd l0 a1_1))).set (a1_1 : Int).toNat (Go.bits .or .u16 (rd l0 a1_0) (rd l0 a1_1)))) else (none)) else (none)) else (none)) else (none)
-- OURS: the contract
set_option maxHeartbeats 2000000 in
set_option maxRecDepth 100000 in
theorem impl_news_meet.calls (P0_ : Nat → Prop) (u9000_ : Value) (l0 : List Int) (a1_0 : Int) (a1_1 : Int) (r : List Int) (w0 w : World) (hB : Below w0.heap.size w0 w) (ho0 : Kd.R (Kd.int .u16) 87 w w0.heap.size P0_ u9000_ l0) (h : impl_news_meet.f l0 a1_0 a1_1 = some r) :
  Calls Try.prog 88 #[u9000_, .agg #[.int .i64 a1_0, .int .i64 a1_1]] w fun e w' => e = .returned (.tuple #[]) ∧ Kd.R (Kd.int .u16) 87 w' w0.heap.size (fun k_ => (P0_ k_ ∨ w.heap.size ≤ k_)) u9000_ r ∧ Below w0.heap.size w0 w' ∧ Kept w w' (fun k_ => P0_ k_) := by
 unfold impl_news_meet.f at h
 have c3 : 0 ≤ a1_0 := by refine Decidable.byContradiction fun c => ?_; simp [c] at h
 have c4 : a1_0 < (l0.length : Int) := by refine Decidable.byContradiction fun c => ?_; simp [c3, c] at h
 have c5 : 0 ≤ a1_1 := by refine Decidable.byContradiction fun c => ?_; simp [c3, c4, c] at h
 have c6 : a1_1 < (l0.length : Int) := by refine Decidable.byContradiction fun c => ?_; simp [c3, c4, c5, c] at h
 simp only [if_pos c3, if_pos c4, if_pos c5, if_pos c6] at h
 obtain rfl := Option.some.inj h
 clear h
 obtain ⟨g, cap, rfl, hg1, hg2, cells, hcells⟩ := Kd.R_form ho0 (by omega)
 have hP : P0_ g := ho0.1 g (by simp [Value.ownBlock])
 have hmax : (l0.length : Int) ≤ 9223372036854775807 := by have := Kd.C_max (Kd.R_reads' ho0).2.2; omega
 have hA := Kd.R_cell 0 ho0 a1_0 c3 c4
 have hC := Kd.R_cell 0 ho0 a1_1 c5 c6
 have HO := Aside0.mk ho0
 clear ho0
 have hu := Try.underlying54
 go_enter Try.func88, Try.ntmps88
 go_wp2
 have hb1 : Below w.heap.size w (w.alloc (.cells #[.int .i64 a1_0, .int .i64 a1_1] 54 (0, 0))) := below_alloc (Below.refl _ _) _
 have bx := blk_new w (.cells #[.int .i64 a1_0, .int .i64 a1_1] 54 (0, 0))
 generalize (w.alloc (.cells #[.int .i64 a1_0, .int .i64 a1_1] 54 (0, 0))) = W1 at hb1 bx ⊢
 have hx0 : W1.cell? ⟨w.heap.size, 0, none⟩ = some (.int .i64 a1_0) := (blk_cell bx 0).trans rfl
 have hx1 : W1.cell? ⟨w.heap.size, 1, none⟩ = some (.int .i64 a1_1) := (blk_cell bx 1).trans rfl
 have hA0 := Go.Proofs.Ytgcpbaipdpchfaa.H.cell_b hb1 hA.1
 have hA1 : W1.frozen? ⟨g, a1_0.toNat, none⟩ = false := (hb1.frozen (p := ⟨g, a1_0.toNat, none⟩) hg2).trans hA.2
 have hC0 := Go.Proofs.Ytgcpbaipdpchfaa.H.cell_b hb1 hC.1
 have hC1 : W1.frozen? ⟨g, a1_1.toNat, none⟩ = false := (hb1.frozen (p := ⟨g, a1_1.toNat, none⟩) hg2).trans hC.2
 have HO1 := Aside0.mk (Kd.R_below HO.out hb1)
 have HB1 := Aside0.mk (below_step hB hb1)
 have HBX := Aside0.mk bx
 have HBB := Aside0.mk hb1
 clear hb1 bx hA hC HO hcells hB
 go_quiet (fail)
 go_wp2
 have hb2 : Below W1.heap.size W1 (W1.drewN nq) := pw_below_drewN (Below.refl _ _) _
 have HO2 := Aside0.mk (Kd.R_below HO1.out hb2)
 have HB2 := Aside0.mk (below_step HB1.out hb2)
 have HBB2 := Aside0.mk (below_step HBB.out hb2)
 replace hx0 := Go.Proofs.Ytgcpbaipdpchfaa.H.cell_b hb2 hx0
 replace hx1 := Go.Proofs.Ytgcpbaipdpchfaa.H.cell_b hb2 hx1
 replace hA0 := Go.Proofs.Ytgcpbaipdpchfaa.H.cell_b hb2 hA0
 replace hC0 := Go.Proofs.Ytgcpbaipdpchfaa.H.cell_b hb2 hC0
 replace hA1 : (W1.drewN nq).frozen? ⟨g, a1_0.toNat, none⟩ = false := hA1
 replace hC1 : (W1.drewN nq).frozen? ⟨g, a1_1.toNat, none⟩ = false := hC1
 clear hb2 HO1 HB1 HBB HBX
 generalize (W1.drewN nq) = W2 at *
 have hn : g ≠ w.heap.size := by omega
 obtain ⟨v1, hy1⟩ := cell?_setCell_some (w := W2) (p := ⟨g, a1_0.toNat, none⟩) (x := .int .u16 (Go.bits .or .u16 (rdOf 0 l0 a1_0) (rdOf 0 l0 a1_1))) (q := ⟨g, a1_1.toNat, none⟩) (v := .int .u16 (rdOf 0 l0 a1_1)) hC0
 go_region
 clear hx0 hx1 hA0 hA1 hC0 hC1 hy1
 have h1 := (Kd.R_put HO2.out a1_0 (Go.bits .or .u16 (rdOf 0 l0 a1_0) (rdOf 0 l0 a1_1))).1
 have e : l0.length = (l0.set a1_0.toNat (Go.bits .or .u16 (rdOf 0 l0 a1_0) (rdOf 0 l0 a1_1))).length := by simp
 rw [e] at h1
 have h2 := (Kd.R_put h1 a1_1 (Go.bits .or .u16 (rdOf 0 l0 a1_0) (rdOf 0 l0 a1_1))).1
 rw [← e] at h2
 have HR := Aside0.mk (Kd.R_mono h2 (ok' := fun k_ => (P0_ k_ ∨ w.heap.size ≤ k_)) (fun k_ hk => .inl hk))
 clear h1 h2 e
 go_end0
 exact ⟨rfl, Kd.R_drew HR.out, below_drew (below_set (below_set HB2.out hg1) hg1), Kept.drew (Kept.setCell (Kept.setCell (Kept.below (Kept.refl w _) HBB2.out) (.inl hP) _) (.inl hP) _)⟩


end Go.Proofs.Ytgcpbaipdpchfaa.PFnExactKnownByRounds
