-- Written by the session's mkprint.py over the kit's print.py (function texts marked OURS are the session's own).
import Derived.Test.YtgcpbaipdpchfaaPFnExactRoundsNeededx0
import Derived.Test.YtgcpbaipdpchfaaPFnExactRoundsNeededx19
import Derived.Test.YtgcpbaipdpchfaaHNeeded
import Derived.Test.YtgcpbaipdpchfaaPFnExactRoundsNeededx16
namespace Go.Proofs.Ytgcpbaipdpchfaa.PFnExactRoundsNeeded
open Go.RowKit Go.Proofs.YtgcpbaipdpchfaaW.PrintWords Go.Proofs.YtgcpbaipdpchfaaW.PrintLast Go.Proofs.YtgcpbaipdpchfaaW.PrintMore
attribute [local go_sem] max2_int min2_int max_two min_two max_three min_three max_four min_four   -- for this text's walks alone
set_option linter.unusedVariables false
set_option linter.unusedSimpArgs false

/-! ### impl_news_count: function 109 -/
def impl_news_count.l0 : Nat → Int → List Int → Int → Int → Option (Int)
  | 0, _, _, _, _ => none
  | k + 1, x3, x6, x7, x8 => if x8 < x7 then (if 0 ≤ x8 then (if x8 < (x6.length : Int) then ((bits_OnesCount16.f (rd x6 x8)).bind fun t235 => (impl_news_count.l0 k (wrap64 (x3 + t235)) x6 x7 (wrap64 (x8 + 1)))) else (none)) else (none)) else (some x3)
def impl_news_count.f (k : Nat) (l0 : List Int) : Option (Int) := impl_news_count.l0 k 0 l0 (l0.length : Int) 0
theorem impl_news_count.mono_l : ∀ k, (∀ y0 y1 y2 y3, LeO (impl_news_count.l0 k y0 y1 y2 y3) (impl_news_count.l0 (k + 1) y0 y1 y2 y3))
  | 0 => fun _ _ _ _ r h => by simp [impl_news_count.l0] at h
  | k + 1 => by
    have ih0 := impl_news_count.mono_l k
    · intro y0 y1 y2 y3
      unfold impl_news_count.l0
      repeat' first
      | (with_reducible exact ih0 _ _ _ _)
      | (with_reducible exact LeO.refl _)
      | (with_reducible exact LeO.none _)
      | (with_reducible refine LeO.ite ?_ ?_)
      | (with_reducible refine LeO.bind ?_ (fun _ => ?_))
      | exact ih0 _ _ _ _
      | exact LeO.none _
      | refine LeO.ite ?_ ?_
      | refine LeO.bind ?_ (fun _ => ?_)
theorem impl_news_count.mono : ∀ a0 k, LeO (impl_news_count.f k a0) (impl_news_count.f (k + 1) a0) := by
  intro a0 k
  have ih0 := impl_news_count.mono_l k
  unfold impl_news_count.f
  repeat' first
      | (with_reducible exact ih0 _ _ _ _)
      | (with_reducible exact LeO.refl _)
      | (with_reducible exact LeO.none _)
      | (with_reducible refine LeO.ite ?_ ?_)
      | (with_reducible refine LeO.bind ?_ (fun _ => ?_))
      | exact ih0 _ _ _ _
      | exact LeO.none _
      | refine LeO.ite ?_ ?_
      | refine LeO.bind ?_ (fun _ => ?_)
set_option maxHeartbeats 8000000 in
set_option maxRecDepth 100000 in
theorem impl_news_count.calls (k : Nat) (A0 : Option Addr) (c0 : Nat) (l0 : List Int) (r : Int) (w : World) (hr0 : Kd.C (Kd.int .u16) w A0 l0.length l0) (hc0 : l0.length ≤ c0) (h : impl_news_count.f k l0 = some r) :
    Calls Try.prog 109 #[.slice A0 l0.length c0] w fun e w' => e = .returned (.int .i64 r) ∧ Drawn0 w w' := by
  have HR0 := Aside0.mk hr0
  have HC0 := Aside0.mk hc0
  clear hr0 hc0
  have H : (impl_news_count.l0 k 0 l0 (l0.length : Int) 0) = some r := h
  clear h
  have H' := Aside0.mk H
  clear H
  go_enter Try.func109, Try.ntmps109
  go_wp2
  go_loopg [3, 8] k (fun kq v3 v8 w' => ∃ (x3_1 : Int) (x8_1 : Int), v3 = .int .i64 x3_1 ∧ v8 = .int .i64 x8_1 ∧ Aside0 (impl_news_count.l0 kq x3_1 l0 (l0.length : Int) x8_1 = some r) ∧ Aside0 (kq ≤ k) ∧ Drawn0 w w')
  case atStart => exact ⟨(0), (0), (by first | rfl | (simp; done) | (simp [*]; done)), (by first | rfl | (simp; done) | (simp [*]; done)), H', ⟨Nat.le_refl _⟩, by repeat (first | exact Drawn0.refl _ | apply Drawn0.step)⟩
  case round =>
    clear H'
    try clear c1
    obtain ⟨x3_1, x8_1, rfl, rfl, HA, HK1, ⟨m1, rfl⟩⟩ := hrel
    cases gk with
    | zero => exact absurd HA.out (by simp [impl_news_count.l0])
    | succ k1 =>
      have H := HA.out
      clear HA
      simp only [impl_news_count.l0] at H
      by_cases c2 : x8_1 < (l0.length : Int)
      · rw [if_pos c2] at H
        have c2b0 : decide (x8_1 < (l0.length : Int)) = true := decide_eq_true c2
        clear c2
        by_cases c3 : 0 ≤ x8_1
        · rw [if_pos c3] at H
          have c3b0 : decide (0 ≤ x8_1) = true := decide_eq_true c3
          clear c3
          by_cases c4 : x8_1 < (l0.length : Int)
          · rw [if_pos c4] at H
            have c4b0 : decide (x8_1 < (l0.length : Int)) = true := decide_eq_true c4
            clear c4
            replace H := Option.bind_eq_some_iff.mp H
            obtain ⟨t235, A50, H⟩ := H
            replace H : (impl_news_count.l0 k1 (wrap64 (x3_1 + t235)) l0 (l0.length : Int) (wrap64 (x8_1 + 1))) = some r := H
            have A5 := Aside0.mk A50
            clear A50
            have H' := Aside0.mk H
            clear H
            have p234 : 0 ≤ (x8_1 : Int) := of_decide_eq_true (by first | (with_reducible assumption) | assumption)
            have q234 : x8_1 < (l0.length : Int) := of_decide_eq_true (by first | (with_reducible assumption) | assumption)
            obtain ⟨ad234, e234, hx234_0⟩ := Kd.at_int HR0.out x8_1 p234 q234
            cases e234
            replace p234 := eq_true p234
            replace q234 := eq_true q234
            go_wp2_with (first | ((with_reducible refine gate_callee (f := 119) rfl ?_); refine goesL_ (some 14) rfl rfl Try.func119 (by kernel_rfl) rfl #[.int .u16 (rd l0 x8_1)] rfl (by (try simp only [List.map_toArray, List.map_cons, List.map_nil]); first | done | rfl | (simp only [List.length_drop, List.length_take]; rfl)) ?_; (with_reducible refine (bits_OnesCount16.calls (rd l0 x8_1) t235 _ A5.out).mono ?_); rintro e w' ⟨rfl, ⟨nd, rfl⟩⟩; refine ⟨_, rfl, ?_⟩))
            go_roundg k1
            case measure => have := HK1.out; omega
            case rel => exact ⟨(wrap64 (x3_1 + t235)), (wrap64 (x8_1 + 1)), (by first | rfl | (simp; done) | (simp [*]; done)), (by first | rfl | (simp; done) | (simp [*]; done)), H', ⟨by have := HK1.out; omega⟩, by repeat (first | exact Drawn0.refl _ | apply Drawn0.step)⟩
          · rw [if_neg c4] at H
            exact absurd H (by simp)
        · rw [if_neg c3] at H
          exact absurd H (by simp)
      · rw [if_neg c2] at H
        have c2b0 : decide (x8_1 < (l0.length : Int)) = false := decide_eq_false c2
        clear c2
        obtain rfl := Option.some.inj H
        go_wp2
        go_ret
        exact ⟨by first | rfl | (simp; done) | (simp [*]; done), by repeat (first | exact Drawn0.refl _ | apply Drawn0.step)⟩

/-! ### impl_news_allKnow: function 86 -/
def impl_news_allKnow.f (k : Nat) (l0 : List Int) : Option (Bool) := (impl_news_count.f k l0).bind fun t236 => (some (t236 == (wrap64 ((l0.length : Int) * (l0.length : Int)))))
theorem impl_news_allKnow.mono : ∀ a0 k, LeO (impl_news_allKnow.f k a0) (impl_news_allKnow.f (k + 1) a0) := by
  intro a0 k
  unfold impl_news_allKnow.f
  repeat' first
      | (with_reducible exact impl_news_count.mono _ _)
      | (with_reducible exact LeO.refl _)
      | (with_reducible exact LeO.none _)
      | (with_reducible refine LeO.ite ?_ ?_)
      | (with_reducible refine LeO.bind ?_ (fun _ => ?_))
      | exact impl_news_count.mono _ _
      | exact LeO.none _
      | refine LeO.ite ?_ ?_
      | refine LeO.bind ?_ (fun _ => ?_)
set_option maxHeartbeats 8000000 in
set_option maxRecDepth 100000 in
theorem impl_news_allKnow.calls (k : Nat) (A0 : Option Addr) (c0 : Nat) (l0 : List Int) (r : Bool) (w : World) (hr0 : Kd.C (Kd.int .u16) w A0 l0.length l0) (hc0 : l0.length ≤ c0) (h : impl_news_allKnow.f k l0 = some r) :
    Calls Try.prog 86 #[.slice A0 l0.length c0] w fun e w' => e = .returned (.bool r) ∧ Drawn0 w w' := by
  have HR0 := Aside0.mk hr0
  have HC0 := Aside0.mk hc0
  clear hr0 hc0
  have H : ((impl_news_count.f k l0).bind fun t236 => (some (t236 == (wrap64 ((l0.length : Int) * (l0.length : Int)))))) = some r := h
  clear h
  replace H := Option.bind_eq_some_iff.mp H
  obtain ⟨t236, A20, H⟩ := H
  replace H : (some (t236 == (wrap64 ((l0.length : Int) * (l0.length : Int))))) = some r := H
  have A2 := Aside0.mk A20
  clear A20
  obtain rfl := Option.some.inj H
  go_enter Try.func86, Try.ntmps86
  go_wp2_with (first | ((with_reducible refine gate_callee (f := 109) rfl ?_); refine goesL_ (some 4) rfl rfl Try.func109 (by kernel_rfl) rfl #[.slice A0 l0.length c0] rfl (by (try simp only [List.map_toArray, List.map_cons, List.map_nil]); first | done | rfl | (simp only [List.length_drop, List.length_take]; rfl)) ?_; (with_reducible refine (impl_news_count.calls k _ _ l0 t236 _ ?side1 ?side2 A2.out).mono ?_); (case side1 => repeat (first | exact HR0.out | (with_reducible refine Kd.C_alloc ?_ _) | (with_reducible refine Kd.C_drewN ?_ _) | (with_reducible refine Kd.C_drew ?_))); (case side2 => exact HC0.out); rintro e w' ⟨rfl, ⟨nd, rfl⟩⟩; refine ⟨_, rfl, ?_⟩))
  go_ret
  exact ⟨by first | rfl | (simp; done) | (simp [*]; done), by repeat (first | exact Drawn0.refl _ | apply Drawn0.step)⟩

/-! ### impl_RoundsNeeded: OURS: function 26 -/
def impl_RoundsNeeded.g (k : Nat) (n : Int) (l : List (List S54)) (i : Nat) : Option Bool := (impl_RoundsNeededLit1.f k (i : Int) n l).bind fun v => impl_news_allKnow.f k v
def impl_RoundsNeeded.f (k : Nat) (a0 : Int) (l1 : List (List S54)) : Option (Int × Bool) := (impl_AreRounds.f k a0 l1).bind fun t => if t = true then Go.Proofs.Ytgcpbaipdpchfaa.H.neededO (impl_RoundsNeeded.g k a0 l1) l1.length else some (0, false)
theorem impl_RoundsNeeded.mono : ∀ a0 a1 k, LeO (impl_RoundsNeeded.f k a0 a1) (impl_RoundsNeeded.f (k + 1) a0 a1) := fun a0 a1 k => LeO.bind (impl_AreRounds.mono _ _ _) (fun _ => LeO.ite (Go.Proofs.Ytgcpbaipdpchfaa.H.neededO_mono (fun i => LeO.bind (impl_RoundsNeededLit1.mono _ _ _ _) (fun _ => impl_news_allKnow.mono _ _))) (LeO.refl _))
theorem needed_known (kq : Nat) (n : Int) (A : Option Addr) (cp : Nat) (l : List (List S54)) (hcp : l.length ≤ cp) (hv : ∀ i, i < l.length + 1 → ∃ b, impl_RoundsNeeded.g kq n l i = some b) (g1 g2 : Nat) (w : World) (hC : Kd.C (Kd.slice 54 k54) w A l.length l) (hg1 : w.heap[g1]? = some (.cells #[.int .i64 n] 3 (0, 0))) (hg2 : w.heap[g2]? = some (.cells #[.slice A l.length cp] 22 (0, 0))) :
    Go.Proofs.Ytgcpbaipdpchfaa.H.KnownIdx 57 #[.pointer (some ⟨g1, 0, none⟩), .pointer (some ⟨g2, 0, none⟩)] l.length (fun i => impl_RoundsNeeded.g kq n l i == some true) w := by
  intro W k hb hk
  have h1 : W.cell? ⟨g1, 0, none⟩ = some (.int .i64 n) := Go.Proofs.Ytgcpbaipdpchfaa.H.cell_b hb ((blk_cell hg1 0).trans rfl)
  have h2 : W.cell? ⟨g2, 0, none⟩ = some (.slice A l.length cp) := Go.Proofs.Ytgcpbaipdpchfaa.H.cell_b hb ((blk_cell hg2 0).trans rfl)
  obtain ⟨b, hbb⟩ := hv k (by omega)
  have e : (impl_RoundsNeeded.g kq n l k == some true) = b := by rw [hbb]; cases b <;> rfl
  obtain ⟨v, hv1, hv2⟩ := Option.bind_eq_some_iff.1 hbb
  have hc := impl_RoundsNeededLit1.calls kq (k : Int) n A cp l v W (Kd.C_below hC hb) hcp hv1 g1 g2 h1 h2
  show Calls _ _ #[.int .i64 (k : Int), .pointer (some ⟨g1, 0, none⟩), .pointer (some ⟨g2, 0, none⟩)] W fun e w' => ∃ v, e = .returned v ∧ Below W.heap.size W w' ∧ Calls Try.prog 86 #[v] w' fun e' w'' => e' = .returned (.bool (impl_RoundsNeeded.g kq n l k == some true)) ∧ Below w'.heap.size w' w''
  rw [e]
  refine hc.mono ?_
  rintro e w1 ⟨v0, rfl, ho, hb1⟩
  refine ⟨v0, rfl, hb1, ?_⟩
  obtain ⟨Ao, co, rfl⟩ := Kd.R_slice ho
  refine (impl_news_allKnow.calls kq Ao co v b w1 (Kd.R_reads' ho).2.2 (Kd.R_reads' ho).2.1 hv2).mono ?_
  rintro e w2 ⟨rfl, ⟨nd, rfl⟩⟩
  exact ⟨rfl, pw_below_drewN (Below.refl _ _) _⟩
set_option maxHeartbeats 1000000 in
set_option maxRecDepth 100000 in
theorem impl_RoundsNeeded.calls (k : Nat) (a0 : Int) (A1 : Option Addr) (c1 : Nat) (l1 : List (List S54)) (r1 : Int) (r2 : Bool) (w : World) (hr1 : Kd.C (Kd.slice 54 k54) w A1 l1.length l1) (hc1 : l1.length ≤ c1) (h : impl_RoundsNeeded.f k a0 l1 = some (r1, r2)) :
    Calls Try.prog 26 #[.int .i64 a0, .slice A1 l1.length c1] w fun e w' => e = .returned (.tuple #[.int .i64 r1, .bool r2]) ∧ Below w.heap.size w w' := by
  obtain ⟨t, ht, h'⟩ := Option.bind_eq_some_iff.1 h
  clear h
  have HR := Aside0.mk hr1
  have hA := fun W2 hx => impl_AreRounds.calls k a0 A1 c1 l1 t W2 hx hc1 ht
  clear hr1 ht
  have B1 : ((w.alloc (.cells #[.int .i64 a0] 3 (0, 0))).alloc (.cells #[.slice A1 l1.length c1] 22 (0, 0))).heap[w.heap.size]? = some (.cells #[.int .i64 a0] 3 (0, 0)) := blk_alloc (blk_new _ _) _
  have B2 : ((w.alloc (.cells #[.int .i64 a0] 3 (0, 0))).alloc (.cells #[.slice A1 l1.length c1] 22 (0, 0))).heap[w.heap.size + 1]? = some (.cells #[.slice A1 l1.length c1] 22 (0, 0)) := by
    have := blk_new (w.alloc (.cells #[.int .i64 a0] 3 (0, 0))) (.cells #[.slice A1 l1.length c1] 22 (0, 0))
    simpa using this
  have HB1 := Aside0.mk B1
  have HB2 := Aside0.mk B2
  clear B1 B2
  cases t with
  | false =>
    simp only [Bool.false_eq_true, if_false, Option.some.injEq, Prod.mk.injEq] at h'
    obtain ⟨rfl, rfl⟩ := h'
    go_enter Try.func26, Try.ntmps26
    go_wp2_with (go_at_call 24; refine (hA _ (Kd.C_alloc (Kd.C_alloc HR.out _) _)).mono ?_; rintro e w1 ⟨rfl, hb⟩)
    go_ret2
    exact ⟨rfl, below_step (below_alloc (below_alloc (Below.refl _ _) _) _) hb⟩
  | true =>
    simp only [if_true] at h'
    obtain ⟨hl, hv, hx⟩ := Go.Proofs.Ytgcpbaipdpchfaa.H.neededO_inv h'
    clear h'
    have eg := enters_of Try.func57 (by kernel_rfl) rfl
    have hX := fun W2 hx hy hz => Go.Proofs.Ytgcpbaipdpchfaa.H.needed_c l1.length hl _ 57 #[.pointer (some ⟨w.heap.size, 0, none⟩), .pointer (some ⟨w.heap.size + 1, 0, none⟩)] eg W2 (needed_known k a0 A1 c1 l1 hc1 hv w.heap.size (w.heap.size + 1) W2 hx hy hz)
    rw [← hx] at hX
    clear hx
    have HX := Aside0.mk hX
    clear hX hv
    go_enter Try.func26, Try.ntmps26
    go_wp2_with (first | (go_at_call 24; refine (hA _ (Kd.C_alloc (Kd.C_alloc HR.out _) _)).mono ?_; rintro e w1 ⟨rfl, hb⟩; have x1 := (blk_cell (blk_below HB1.out hb) 0).trans rfl; have x2 := (blk_cell (blk_below HB2.out hb) 0).trans rfl; have HC1 := Aside0.mk (Kd.C_below (Kd.C_alloc (Kd.C_alloc HR.out (.cells #[.int .i64 a0] 3 (0, 0))) (.cells #[.slice A1 l1.length c1] 22 (0, 0))) hb); have HBB := Aside0.mk hb; clear hb) | (go_at_call 56; refine (HX.out _ HC1.out (blk_below HB1.out HBB.out) (blk_below HB2.out HBB.out)).mono ?_; rintro e w3 ⟨rfl, hb3⟩))
    go_ret2
    exact ⟨rfl, below_step (below_step (below_alloc (below_alloc (Below.refl _ _) _) _) HBB.out) hb3⟩


end Go.Proofs.Ytgcpbaipdpchfaa.PFnExactRoundsNeeded
