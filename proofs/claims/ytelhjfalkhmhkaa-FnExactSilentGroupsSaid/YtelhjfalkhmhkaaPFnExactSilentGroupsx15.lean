-- Written by the session's mkprint.py over the kit's print.py (function texts marked OURS are the session's own).
import Derived.Test.YtelhjfalkhmhkaaPFnExactSilentGroupsx0
import Derived.Test.YtelhjfalkhmhkaaHBase
import Derived.Test.YtelhjfalkhmhkaaHIndices
import Derived.Test.YtelhjfalkhmhkaaPFnExactSilentGroupsx1
import Derived.Test.YtelhjfalkhmhkaaPFnExactSilentGroupsx12
import Derived.Test.YtelhjfalkhmhkaaPFnExactSilentGroupsx13
import Derived.Test.YtelhjfalkhmhkaaPFnExactSilentGroupsx14
import Derived.Test.YtelhjfalkhmhkaaPFnExactSilentGroupsx2
import Derived.Test.YtelhjfalkhmhkaaPFnExactSilentGroupsx3
import Derived.Test.YtelhjfalkhmhkaaPFnExactSilentGroupsx5
import Derived.Test.YtelhjfalkhmhkaaPFnExactSilentGroupsx6
import Derived.Test.YtelhjfalkhmhkaaPFnExactSilentGroupsx7
import Derived.Test.YtelhjfalkhmhkaaWApart
import Derived.Test.YtelhjfalkhmhkaaWKept
import Derived.Test.YtelhjfalkhmhkaaWMore
namespace Go.Proofs.Ytelhjfalkhmhkaa.PFnExactSilentGroups
open Go.RowKit Go.Proofs.YtelhjfalkhmhkaaW.PrintWords Go.Proofs.YtelhjfalkhmhkaaW.PrintLast Go.Proofs.YtelhjfalkhmhkaaW.PrintMore
attribute [local go_sem] max2_int min2_int max_two min_two max_three min_three max_four min_four   -- for this text's walks alone
set_option linter.unusedVariables false
set_option linter.unusedSimpArgs false

/-! ### impl_SilentGroupsLit1: function 80 -/
def impl_SilentGroupsLit1.f (a0 : Int) (l1 : List Int) (a2 : Int) : Option (Bool) := if 0 ≤ a2 then (if a2 < (l1.length : Int) then (if 0 ≤ a0 then (if (Go.bits .and .u16 (shr .u16 (rd l1 a2) a0) 1) = 1 then (if a0 < (l1.length : Int) then (some ((Go.bits .and .u16 (shr .u16 (rd l1 a0) a2) 1) == 1)) else (none)) else (some false)) else (none)) else (none)) else (none)
set_option maxHeartbeats 8000000 in
set_option maxRecDepth 100000 in
theorem impl_SilentGroupsLit1.calls (a0 : Int) (A1 : Option Addr) (c1 : Nat) (l1 : List Int) (a2 : Int) (r : Bool) (w : World) (hr1 : Kd.C (Kd.int .u16) w A1 l1.length l1) (hc1 : l1.length ≤ c1) (h : impl_SilentGroupsLit1.f a0 l1 a2 = some r) (g0_ : Nat) (g1_ : Nat) (hg0_ : w.cell? ⟨g0_, 0, none⟩ = some (.slice A1 l1.length c1)) (hg1_ : w.cell? ⟨g1_, 0, none⟩ = some (.int .i64 a2)) :
    Calls Try.prog 80 #[.int .i64 a0, .pointer (some ⟨g0_, 0, none⟩), .pointer (some ⟨g1_, 0, none⟩)] w fun e w' => e = .returned (.bool r) ∧ Drawn0 w w' := by
  have HG0_ := Aside0.mk hg0_
  have HG1_ := Aside0.mk hg1_
  have HR1 := Aside0.mk hr1
  have HC1 := Aside0.mk hc1
  clear hr1 hc1
  have H : (if 0 ≤ a2 then (if a2 < (l1.length : Int) then (if 0 ≤ a0 then (if (Go.bits .and .u16 (shr .u16 (rd l1 a2) a0) 1) = 1 then (if a0 < (l1.length : Int) then (some ((Go.bits .and .u16 (shr .u16 (rd l1 a0) a2) 1) == 1)) else (none)) else (some false)) else (none)) else (none)) else (none)) = some r := h
  clear h
  by_cases c4 : 0 ≤ a2
  · rw [if_pos c4] at H
    have c4b0 : decide (0 ≤ a2) = true := decide_eq_true c4
    clear c4
    by_cases c5 : a2 < (l1.length : Int)
    · rw [if_pos c5] at H
      have c5b0 : decide (a2 < (l1.length : Int)) = true := decide_eq_true c5
      clear c5
      by_cases c6 : 0 ≤ a0
      · rw [if_pos c6] at H
        have c6b0 := eq_true c6
        have c6b1 : decide (0 ≤ a0) = true := decide_eq_true c6
        clear c6
        obtain ⟨ji7, hji7⟩ : ∃ j_ : Int, (shr .u16 (rd l1 a2) a0) = j_ := ⟨_, rfl⟩
        replace H : (if (Go.bits .and .u16 (ji7) 1) = 1 then (if a0 < (l1.length : Int) then (some ((Go.bits .and .u16 (shr .u16 (rd l1 a0) a2) 1) == 1)) else (none)) else (some false)) = some r := by first | (rw [hji7] at H; exact H) | (simp only [hji7] at H ⊢; exact H)
        have hji7_ : ((rd l1 a2) / 2 ^ min a0.toNat 16) = ji7 := hji7
        have hji7z : a0 ≤ 16 → ((rd l1 a2) / 2 ^ a0.toNat) = ji7 := shr_small hji7
        by_cases c8 : (Go.bits .and .u16 (ji7) 1) = 1
        · rw [if_pos c8] at H
          have c8b0 : ((Go.bits .and .u16 (ji7) 1) == 1) = true := beq_iff_eq.mpr c8
          have c8b1 : ((Go.bits .and .u16 (ji7) 1) != 1) = false := bne_eq_false_iff_eq.mpr c8
          clear c8
          by_cases c9 : a0 < (l1.length : Int)
          · rw [if_pos c9] at H
            have c9b0 : decide (a0 < (l1.length : Int)) = true := decide_eq_true c9
            clear c9
            have c10b0 := eq_true (of_decide_eq_true (by first | (with_reducible assumption) | assumption) : 0 ≤ a2)
            obtain ⟨ji11, hji11⟩ : ∃ j_ : Int, (shr .u16 (rd l1 a0) a2) = j_ := ⟨_, rfl⟩
            replace H : (some ((Go.bits .and .u16 (ji11) 1) == 1)) = some r := by first | (rw [hji11] at H; exact H) | (simp only [hji11] at H ⊢; exact H)
            have hji11_ : ((rd l1 a0) / 2 ^ min a2.toNat 16) = ji11 := hji11
            have hji11z : a2 ≤ 16 → ((rd l1 a0) / 2 ^ a2.toNat) = ji11 := shr_small hji11
            obtain rfl := Option.some.inj H
            have p189 : 0 ≤ (a2 : Int) := of_decide_eq_true (by first | (with_reducible assumption) | assumption)
            have q189 : a2 < (l1.length : Int) := of_decide_eq_true (by first | (with_reducible assumption) | assumption)
            obtain ⟨ad189, e189, hx189_0⟩ := Kd.at_int HR1.out a2 p189 q189
            cases e189
            replace p189 := eq_true p189
            replace q189 := eq_true q189
            have p190 : 0 ≤ (a0 : Int) := of_decide_eq_true (by first | (with_reducible assumption) | assumption)
            have q190 : a0 < (l1.length : Int) := of_decide_eq_true (by first | (with_reducible assumption) | assumption)
            obtain ⟨ad190, e190, hx190_0⟩ := Kd.at_int HR1.out a0 p190 q190
            obtain rfl : ad189 = ad190 := (by injection e190)
            replace p190 := eq_true p190
            replace q190 := eq_true q190
            go_enter Try.func80, Try.ntmps80
            go_wp2
            repeat (go_quiet (fail); try go_wp2)
            go_ret
            exact ⟨by first | rfl | (simp; done) | (simp only [← hji7, ← hji11] <;> (first | rfl | simp)) | (simp [*]; done), by repeat (first | exact Drawn0.refl _ | apply Drawn0.step)⟩
          · rw [if_neg c9] at H
            exact absurd H (by simp)
        · rw [if_neg c8] at H
          have c8b0 : ((Go.bits .and .u16 (ji7) 1) == 1) = false := beq_eq_false_iff_ne.mpr c8
          have c8b1 : ((Go.bits .and .u16 (ji7) 1) != 1) = true := bne_iff_ne.mpr c8
          obtain rfl := Option.some.inj H
          have p189 : 0 ≤ (a2 : Int) := of_decide_eq_true (by first | (with_reducible assumption) | assumption)
          have q189 : a2 < (l1.length : Int) := of_decide_eq_true (by first | (with_reducible assumption) | assumption)
          obtain ⟨ad189, e189, hx189_0⟩ := Kd.at_int HR1.out a2 p189 q189
          cases e189
          replace p189 := eq_true p189
          replace q189 := eq_true q189
          go_enter Try.func80, Try.ntmps80
          go_wp2
          repeat (go_quiet (fail); try go_wp2)
          go_ret
          exact ⟨by first | rfl | (simp; done) | (simp only [← hji7] <;> (first | rfl | simp)) | (simp [*]; done), by repeat (first | exact Drawn0.refl _ | apply Drawn0.step)⟩
      · rw [if_neg c6] at H
        exact absurd H (by simp)
    · rw [if_neg c5] at H
      exact absurd H (by simp)
  · rw [if_neg c4] at H
    exact absurd H (by simp)

/-! ### impl_SilentGroups: OURS: function 38 -/
def impl_SilentGroups.l0 : Nat → Int → List Int → List (List Int) → Int → Option (List (List Int))
  | 0, _, _, _, _ => none
  | k + 1, n, kn, out, i => if i < n then ((Go.Proofs.Ytelhjfalkhmhkaa.H.idxO (fun q => impl_SilentGroupsLit1.f (q : Int) kn i) n.toNat).bind fun g => if 0 < g.length then (if g.getD 0 0 = i then (if out.length < 5864062014805 then impl_SilentGroups.l0 k n kn (out ++ [g]) (i + 1) else none) else impl_SilentGroups.l0 k n kn out (i + 1)) else none) else some out
theorem impl_SilentGroups.mono_l : ∀ k, (∀ y0 y1 y2 y3, LeO (impl_SilentGroups.l0 k y0 y1 y2 y3) (impl_SilentGroups.l0 (k + 1) y0 y1 y2 y3))
  | 0 => fun _ _ _ _ r h => by simp [impl_SilentGroups.l0] at h
  | k + 1 => by
    have ih0 := impl_SilentGroups.mono_l k
    intro y0 y1 y2 y3
    unfold impl_SilentGroups.l0
    exact LeO.ite (LeO.bind (LeO.refl _) (fun _ => LeO.ite (LeO.ite (LeO.ite (ih0 _ _ _ _) (LeO.none _)) (ih0 _ _ _ _)) (LeO.none _))) (LeO.refl _)
def impl_SilentGroups.f (k : Nat) (a0 : Int) (l1 : List S75) : Option (List (List Int) × Bool) := (impl_areArrows.f a0 l1).bind fun t => if t = true then ((impl_heard.f k a0 l1).bind fun kn => if 0 ≤ a0 then ((impl_SilentGroups.l0 k a0 kn [] 0).bind fun x => some (x, true)) else none) else some ([], false)
theorem impl_SilentGroups.mono : ∀ a0 a1 k, LeO (impl_SilentGroups.f k a0 a1) (impl_SilentGroups.f (k + 1) a0 a1) := fun a0 a1 k => LeO.bind (LeO.refl _) (fun _ => LeO.ite (LeO.bind (impl_heard.mono _ _ _) (fun _ => LeO.ite (LeO.bind (impl_SilentGroups.mono_l _ _ _ _ _) (fun _ => LeO.refl _)) (LeO.none _))) (LeO.refl _))
theorem silentG_pred (a2 : Int) (A : Option Addr) (cp : Nat) (l : List Int) (hcp : l.length ≤ cp) (m : Nat) (hv : ∀ i, i < m → ∃ b, impl_SilentGroupsLit1.f ((i : Nat) : Int) l a2 = some b) (g1 g2 : Nat) (w : World) (hC : Kd.C (Kd.int .u16) w A l.length l) (hg1 : w.cell? ⟨g1, 0, none⟩ = some (.slice A l.length cp)) (hg2 : w.cell? ⟨g2, 0, none⟩ = some (.int .i64 a2)) :
    Go.Proofs.Ytelhjfalkhmhkaa.H.PredIdx 80 #[.pointer (some ⟨g1, 0, none⟩), .pointer (some ⟨g2, 0, none⟩)] m (fun i => impl_SilentGroupsLit1.f (i : Int) l a2 == some true) w := by
  intro W k hb hk
  have h1 := Go.Proofs.Ytelhjfalkhmhkaa.H.cell_b hb hg1
  have h2 := Go.Proofs.Ytelhjfalkhmhkaa.H.cell_b hb hg2
  obtain ⟨b, hbb⟩ := hv k hk
  have hc := impl_SilentGroupsLit1.calls (k : Int) A cp l a2 b W (Kd.C_below hC hb) hcp hbb g1 g2 h1 h2
  have e : (impl_SilentGroupsLit1.f (k : Int) l a2 == some true) = b := by rw [hbb]; cases b <;> rfl
  show Calls _ _ #[.int .i64 (k : Int), .pointer (some ⟨g1, 0, none⟩), .pointer (some ⟨g2, 0, none⟩)] W fun e w' => e = .returned (.bool (impl_SilentGroupsLit1.f (k : Int) l a2 == some true)) ∧ Below W.heap.size W w'
  rw [e]
  refine hc.mono ?_
  rintro e w2 ⟨rfl, hx⟩
  exact ⟨rfl, by first | exact hx | (obtain ⟨nd, rfl⟩ := hx; exact pw_below_drewN (Below.refl _ _) _)⟩
set_option maxHeartbeats 4000000 in
set_option maxRecDepth 100000 in
theorem impl_SilentGroups.calls (k : Nat) (a0 : Int) (A1 : Option Addr) (c1 : Nat) (l1 : List S75) (r1 : List (List Int)) (r2 : Bool) (w : World) (hr1 : Kd.C k75 w A1 l1.length l1) (hc1 : l1.length ≤ c1) (h : impl_SilentGroups.f k a0 l1 = some (r1, r2)) :
    Calls Try.prog 38 #[.int .i64 a0, .slice A1 l1.length c1] w fun e w' => ∃ v0_ : Value, e = .returned (.tuple #[v0_, .bool r2]) ∧ Kd.S (Kd.slice 3 (Kd.int .i64)) 53 w' w.heap.size (fun _ => True) v0_ r1 ∧ Below w.heap.size w w' := by
  obtain ⟨t, ht, h'⟩ := Option.bind_eq_some_iff.1 h
  clear h
  have HR := Aside0.mk hr1
  have hA := fun W2 hx => impl_areArrows.calls a0 A1 c1 l1 t W2 hx hc1 ht
  clear hr1 ht
  cases t with
  | false =>
    simp only [Bool.false_eq_true, if_false, Option.some.injEq, Prod.mk.injEq] at h'
    obtain ⟨rfl, rfl⟩ := h'
    go_enter Try.func38, Try.ntmps38
    go_wp2_with (go_at_call 77; refine (hA _ HR.out).mono ?_; rintro e w1 ⟨rfl, hb⟩)
    go_ret2
    exact ⟨_, rfl, Kd.S_nil _ _ _ _ _, hb⟩
  | true =>
    simp only [if_true] at h'
    obtain ⟨kn, hkn, h3⟩ := Option.bind_eq_some_iff.1 h'
    clear h'
    by_cases h0 : 0 ≤ a0
    case neg => rw [if_neg h0] at h3; cases h3
    rw [if_pos h0] at h3
    obtain ⟨x, hx, h4⟩ := Option.bind_eq_some_iff.1 h3
    clear h3
    have h5 := Option.some.inj h4
    clear h4
    simp only [Prod.mk.injEq] at h5
    obtain ⟨rfl, rfl⟩ := h5
    have hH := fun W2 hx => impl_heard.calls k a0 A1 c1 l1 kn W2 hx hc1 hkn
    clear hkn
    have HX := Aside0.mk hx
    clear hx
    have H0 := Aside0.mk h0
    clear h0
    go_enter Try.func38, Try.ntmps38
    go_wp2_with (first | (go_at_call 77; refine (hA _ HR.out).mono ?_; rintro e w1 ⟨rfl, hb⟩; have HBB := Aside0.mk hb; clear hb) | (go_at_call 78; refine (hH _ (Kd.C_below HR.out HBB.out)).mono ?_; rintro e w3 ⟨v3, rfl, ho, hb3⟩; obtain ⟨A3, c3, rfl⟩ := Kd.R_slice ho; have HO3 := Aside0.mk ho; have HB3 := Aside0.mk (below_step HBB.out hb3); clear ho hb3) | ((with_reducible refine gate_dst (N := 17) rfl ?_); refine Kd.S_lit (Kd.slice 3 (Kd.int .i64)) _ 53 ?hg (N := 17) ?hd (xs := ([] : List (List Int))) (inner := []) (ok := fun _ => True) (okp := fun _ => True) ?hr ?hp (fun _ hk => hk) trivial (Below.refl _ _) (Nat.le_refl _) (by simp) ?_; (case hd => rfl); (case hg => rfl); (case hr => first | (go_simp; done) | (go_simp; rfl)); (case hp => exact (Reps.none _ _)); intro v180 w4 ho3 hb hg_ hnew_; clear hg_ hnew_; have HO4 := Aside0.mk (Kd.S_lower ho3 (below_size HB3.out)); have HC4 := Aside0.mk (Kd.R_below (Kd.R_lower HO3.out (below_size HBB.out)) hb); have HB4 := Aside0.mk (below_step HB3.out hb); clear ho3 hb))
    have hb5 : Below w4.heap.size w4 (w4.alloc (.cells #[.slice A3 kn.length c3] 85 (0, 0))) := below_alloc (Below.refl _ _) _
    have B1 : (w4.alloc (.cells #[.slice A3 kn.length c3] 85 (0, 0))).heap[w4.heap.size]? = some (.cells #[.slice A3 kn.length c3] 85 (0, 0)) := blk_new _ _
    have HO5 := Aside0.mk (Kd.S_below HO4.out hb5)
    have HC5 := Aside0.mk (Kd.R_below HC4.out hb5)
    have HB5 := Aside0.mk (below_step HB4.out hb5)
    have HK5 := Aside0.mk (Kd.R_reads' HO3.out).2.1
    have HB1 := Aside0.mk B1
    clear hb5 B1 HO4 HC4 HB4 HO3 HB3 HBB
    generalize w4.alloc (.cells #[.slice A3 kn.length c3] 85 (0, 0)) = W5 at HO5 HC5 HB5 HB1 ⊢
    generalize w4.heap.size = g1 at HB1 ⊢
    have eg := enters_of Try.func80 (by kernel_rfl) rfl
    have HEG := Aside0.mk eg
    clear eg
    go_loopg [7, 19] k (fun kq v7 v19 wr => ∃ (out : List (List Int)) (i : Int), v19 = .int .i64 i ∧ 0 ≤ i ∧ Aside0 (impl_SilentGroups.l0 kq a0 kn out i = some x) ∧ Aside0 (kq ≤ k) ∧ Aside0 (Kd.S (Kd.slice 3 (Kd.int .i64)) 53 wr w.heap.size (fun _ => True) v7 out) ∧ Aside0 (Below w.heap.size w wr) ∧ Aside0 (Kd.R (Kd.int .u16) 90 wr w.heap.size (fun _ => True) (.slice A3 kn.length c3) kn) ∧ Aside0 (wr.heap[g1]? = some (.cells #[.slice A3 kn.length c3] 85 (0, 0))))
    case atStart => exact ⟨[], 0, rfl, Int.le_refl _, HX, ⟨Nat.le_refl _⟩, HO5, HB5, HC5, HB1⟩
    case round =>
      clear HX HO5 HB5 HC5 HB1
      obtain ⟨out, i, rfl, hi0, HA, HK1, HO, HB, HC, HBX⟩ := hrel
      cases gk with
      | zero => exact absurd HA.out (by simp [impl_SilentGroups.l0])
      | succ k1 =>
        have H := HA.out
        clear HA
        simp only [impl_SilentGroups.l0] at H
        by_cases c4 : i < a0
        · rw [if_pos c4] at H
          obtain ⟨g, hg, H2⟩ := Option.bind_eq_some_iff.1 H
          clear H
          by_cases c5 : 0 < g.length
          case neg => rw [if_neg c5] at H2; cases H2
          rw [if_pos c5] at H2
          obtain ⟨hl, hv, hge⟩ := Go.Proofs.Ytelhjfalkhmhkaa.H.idxO_inv hg
          clear hg
          have hX := fun g2 W2 hx hy hz => Go.Proofs.Ytelhjfalkhmhkaa.H.indices_c a0.toNat hl _ 80 #[.pointer (some ⟨g1, 0, none⟩), .pointer (some ⟨g2, 0, none⟩)] HEG.out W2 (silentG_pred i A3 c3 kn HK5.out a0.toNat hv g1 g2 W2 hx hy hz)
          have e0 : ((a0.toNat : Nat) : Int) = a0 := by have := H0.out; omega
          rw [e0, ← hge] at hX
          have HI := Aside0.mk (show wrap64 (i + 1) = i + 1 by unfold wrap64; have := H0.out; omega)
          have HXX := Aside0.mk hX
          have HG := Aside0.mk hge
          clear hX hv hge hl e0
          have c4b : decide (i < a0) = true := decide_eq_true c4
          have HC5l := Aside0.mk c5
          have H2' := Aside0.mk H2
          clear c4 c5 H2
          have hBo := fun o => blk_alloc HBX.out o
          go_wp2_with (first | (go_at_call 79; refine (HXX.out wr.heap.size _ (Kd.C_alloc (Kd.R_reads' HC.out).2.2 _) ((blk_cell (hBo _) 0).trans rfl) ((blk_cell (blk_new _ _) 0).trans rfl)).mono ?_; rintro e w6 ⟨v6, rfl, ho6, hb6⟩; obtain ⟨g6, c6, rfl, _, _, _⟩ := Kd.R_form ho6 HC5l.out; have HBB6 := Aside0.mk (blk_below (blk_new _ _) hb6); have HO6 := Aside0.mk ho6; have HB6 := Aside0.mk hb6; clear ho6 hb6))
          have bA := below_alloc HB.out (.cells #[.int .i64 i] 3 (0, 0))
          have HB7 := Aside0.mk (below_step bA HB6.out)
          have HC7 := Aside0.mk (Kd.R_below (Kd.R_alloc HC.out (.cells #[.int .i64 i] 3 (0, 0))) HB6.out)
          have HBX7 := Aside0.mk (blk_below (hBo (.cells #[.int .i64 i] 3 (0, 0))) HB6.out)
          have HO7 := Aside0.mk (Kd.S_elder' (Kd.S_alloc HO.out (.cells #[.int .i64 i] 3 (0, 0))) (Kd.R_base HO6.out) HB6.out)
          have HR7 := Aside0.mk (Kd.R_lower HO6.out (below_size bA))
          obtain ⟨ad6, e6, x60⟩ := Kd.at_int (Kd.R_reads' HO6.out).2.2 0 (Int.le_refl 0) (by have := HC5l.out; omega)
          injection e6 with e6
          subst e6
          rw [show rd g (0 : Int) = g.getD 0 0 from rfl] at x60
          replace x60 : w6.cell? ⟨g6, 0, none⟩ = some (.int .i64 (g.getD 0 0)) := x60
          have x61 := (blk_cell HBB6.out 0).trans rfl
          have hpos := HC5l.out
          clear bA HO6 HB6 HBB6 HO HB HC HBX hBo
          obtain ⟨y, hy⟩ : ∃ y, y = g.getD 0 0 := ⟨_, rfl⟩
          rw [← hy] at x60
          have H2 := H2'.out
          rw [← hy] at H2
          clear hy H2'
          by_cases hq : y = i
          · rw [if_pos hq] at H2
            by_cases c8 : out.length < 5864062014805
            case neg => rw [if_neg c8] at H2; cases H2
            rw [if_pos c8] at H2
            have H' := Aside0.mk H2
            have LMc8 := Aside0.mk c8
            have d0 : (y == i) = true := by simp [hq]
            clear H2 c8 hq
            go_wp2
            go_quiet (fail)
            have HO8 := Aside0.mk (Kd.S_drewN HO7.out nq)
            have HR8 := Aside0.mk (Kd.R_drewN HR7.out nq)
            have HB8 := Aside0.mk (pw_below_drewN HB7.out nq)
            have HC8 := Aside0.mk (Kd.R_drewN HC7.out nq)
            have HBX8 := Aside0.mk (blk_drewN HBX7.out nq)
            clear HO7 HR7 HB7 HC7 HBX7 x60 x61 hpos
            generalize w6.drewN nq = W8 at HO8 HR8 HB8 HC8 HBX8 ⊢
            go_wp2_with (first | ((with_reducible refine gate_builtin (b := .append) (xs := #[.tmp 30, .tmp 32]) rfl ?_); at_builtin; refine Kd.S_append (Kd.slice 3 (Kd.int .i64)) (w0 := w) w.heap.size rfl (.tmp 30) (.tmp 32) 48 53 (.slice none 0 0) 24 rfl Try.underlying48 info53 rfl (by decide) (by omega) u7 out g [.slice (some ⟨g6, 0, none⟩) g.length c6] (fun _ => True) (fun k_ => some k_ = (.slice (some ⟨g6, 0, none⟩) g.length c6 : Value).ownBlock) rfl rfl ?aP (fun k_ hk_ => ((Kd.R_mono (ok' := fun k_ => ((fun _ => True)) k_ ∧ some k_ ≠ (u7 : Value).ownBlock) (Kd.R_apart' (HR8.out) (Kd.S_typed HO8.out) (by decide)) (fun k_ hk => ⟨trivial, hk.2⟩))).1 k_ hk_.symm) ?aF ?aO ?aB ?aS ?aL ?_; (case aP => exact Kd.M_row (Kd.R_mono (Kd.R_tight rfl (Kd.R_mono (ok' := fun k_ => ((fun _ => True)) k_ ∧ some k_ ≠ (u7 : Value).ownBlock) (Kd.R_apart' (HR8.out) (Kd.S_typed HO8.out) (by decide)) (fun k_ hk => ⟨trivial, hk.2⟩))) (fun _ h_ => h_))); (case aB => exact (by repeat (first | (with_reducible first | exact HB8.out | apply below_alloc | apply pw_below_drewN | apply below_drew1) | exact HB8.out))); (case aF => exact (fun _ _ => trivial)); (case aO => exact (by (with_reducible repeat (first | apply Kd.S_alloc | apply Kd.S_drewN | apply Kd.S_drew)); exact Kd.S_mono HO8.out (fun k_ hk => ⟨trivial, fun e_ => hk.2 e_⟩))); (case aS => exact (below_size (by repeat (first | (with_reducible first | exact HB8.out | apply below_alloc | apply pw_below_drewN | apply below_drew1) | exact HB8.out)))); (case aL => have := LMc8.out; omega); intro v187 w10 ho hb hg hat; have HO9 := Aside0.mk ho; have HB9 := Aside0.mk hb; have HC9 := Aside0.mk (Kd.R_over' (by (with_reducible repeat (first | apply Kd.R_alloc | apply Kd.R_drewN | apply Kd.R_drew)); exact HC8.out) (Kd.S_typed (by (with_reducible repeat (first | apply Kd.S_alloc | apply Kd.S_drewN | apply Kd.S_drew)); exact HO8.out)) (by decide) hg); have HBX9 := Aside0.mk (blk_grown (by (with_reducible repeat (first | apply blk_alloc | apply blk_drewN | apply blk_drew)); exact HBX8.out) hg (Kd.S_ne HO8.out HBX8.out (by decide))); clear ho hb hg hat))
            go_roundg k1
            case measure => have := HK1.out; omega
            case rel => exact ⟨out ++ [g], i + 1, by rw [HI.out], by omega, H', ⟨by have := HK1.out; omega⟩, HO9, HB9, HC9, HBX9⟩
          · rw [if_neg hq] at H2
            have H' := Aside0.mk H2
            have d0 : (y == i) = false := by simp [hq]
            clear H2 hq
            go_wp2
            go_quiet (fail)
            go_wp2
            go_roundg k1
            case measure => have := HK1.out; omega
            case rel => exact ⟨out, i + 1, by rw [HI.out], by omega, H', ⟨by have := HK1.out; omega⟩, ⟨Kd.S_drewN (Kd.S_mono HO7.out (fun _ _ => trivial)) _⟩, ⟨pw_below_drewN HB7.out _⟩, ⟨Kd.R_drewN HC7.out _⟩, ⟨blk_drewN HBX7.out _⟩⟩
        · rw [if_neg c4] at H
          have c4b : decide (i < a0) = false := decide_eq_false c4
          clear c4
          obtain rfl := Option.some.inj H
          clear H
          go_wp2
          go_ret2
          exact ⟨_, rfl, HO.out, HB.out⟩

/-! ### laws_FnExactSilentGroups: OURS: function 9 -/
def laws_FnExactSilentGroups.f (k : Nat) (a0 : Int) (l1 : List S77) : Option Bool := (laws_szLetterS.f l1 1048576).bind fun left => if left < 0 then some true else (laws_toLetterS.f k l1).bind fun x => ((spec_SilentGroups.f k a0 x).bind fun w => (impl_SilentGroups.f k a0 x).bind fun g => (laws_eqIntSS.f k g.1 w.1).bind fun q => if q = true ∧ g.2 = w.2 then (laws_eqLetterS.f k x x).bind fun q2 => if q2 = true then (laws_markLetterS.f k x 1).bind fun mx => if 0 ≤ mx.1 then (laws_markIntSS.f k g.1 1).bind fun mg => (laws_heldIntSS.f k mg.2 1).bind fun hq => if 0 ≤ hq ∧ hq = mg.1 then some true else none else none else none else none)
set_option maxHeartbeats 8000000 in
set_option maxRecDepth 100000 in
theorem laws_FnExactSilentGroups.calls (k : Nat) (a0 : Int) (A1 : Option Addr) (c1 : Nat) (l1 : List S77) (r : Bool) (w : World) (hr1 : Kd.C k77 w A1 l1.length l1) (hc1 : l1.length ≤ c1) (h : laws_FnExactSilentGroups.f k a0 l1 = some r) :
    Calls Try.prog 9 #[.int .i64 a0, .slice A1 l1.length c1] w fun e w' => e = .returned (.bool r) ∧ Below w.heap.size w w' := by
  unfold laws_FnExactSilentGroups.f at h
  have hT_ := Option.bind_eq_some_iff.1 h
  clear h
  obtain ⟨left, h1, h⟩ := hT_
  try dsimp only at h
  have HC := Aside0.mk hr1
  have HC1 := Aside0.mk hc1
  have hz := laws_szLetterS.calls A1 c1 l1 1048576 left w hr1 hc1 (by first | exact h1)
  clear hr1 hc1 h1
  by_cases hl : left < 0
  · rw [if_pos hl] at h
    obtain rfl := Option.some.inj h
    clear h
    have hl1 : decide (left < 0) = true := decide_eq_true hl
    go_enter Try.func9, Try.ntmps9
    go_wp2_with fail
    refine hz.mono ?_
    rintro e w1 ⟨rfl, hb1⟩
    have hb1 := Aside0.mk hb1
    go_wp2_with fail
    go_ret
    exact ⟨rfl, by first | exact hb1.out | exact hb1.out.below⟩
  rw [if_neg hl] at h
  have hl1 : decide (left < 0) = false := decide_eq_false hl
  have hT_ := Option.bind_eq_some_iff.1 h
  clear h
  obtain ⟨x, h2, h⟩ := hT_
  try dsimp only at h
  have hT_ := Option.bind_eq_some_iff.1 h
  clear h
  obtain ⟨⟨w_, wq⟩, h3, h⟩ := hT_
  try dsimp only at h
  have hT_ := Option.bind_eq_some_iff.1 h
  clear h
  obtain ⟨⟨g_, gq⟩, h4, h⟩ := hT_
  try dsimp only at h
  have hT_ := Option.bind_eq_some_iff.1 h
  clear h
  obtain ⟨q, h5, h⟩ := hT_
  try dsimp only at h
  by_cases hq : q = true ∧ gq = wq
  case neg => rw [if_neg hq] at h; cases h
  rw [if_pos hq] at h
  obtain ⟨rfl, rfl⟩ := hq
  have hT_ := Option.bind_eq_some_iff.1 h
  clear h
  obtain ⟨q2, h6, h⟩ := hT_
  try dsimp only at h
  by_cases hq2 : q2 = true
  case neg => rw [if_neg hq2] at h; cases h
  rw [if_pos hq2] at h
  subst hq2
  have hT_ := Option.bind_eq_some_iff.1 h
  clear h
  obtain ⟨⟨mx, xm⟩, h7, h⟩ := hT_
  try dsimp only at h
  by_cases hm : 0 ≤ mx
  case neg => rw [if_neg hm] at h; cases h
  rw [if_pos hm] at h
  have hT_ := Option.bind_eq_some_iff.1 h
  clear h
  obtain ⟨⟨mg, gm⟩, h8, h⟩ := hT_
  try dsimp only at h
  have hT_ := Option.bind_eq_some_iff.1 h
  clear h
  obtain ⟨hh, h9, h⟩ := hT_
  try dsimp only at h
  by_cases hh2 : 0 ≤ hh ∧ hh = mg
  case neg => rw [if_neg hh2] at h; cases h
  rw [if_pos hh2] at h
  obtain ⟨hm0, rfl⟩ := hh2
  obtain rfl := Option.some.inj h
  clear h
  try dsimp only at h2
  have H2 := Aside0.mk h2
  clear h2
  try dsimp only at h3
  have H3 := Aside0.mk h3
  clear h3
  try dsimp only at h4
  have H4 := Aside0.mk h4
  clear h4
  try dsimp only at h5
  have H5 := Aside0.mk h5
  clear h5
  try dsimp only at h6
  have H6 := Aside0.mk h6
  clear h6
  try dsimp only at h7
  have H7 := Aside0.mk h7
  clear h7
  try dsimp only at h8
  have H8 := Aside0.mk h8
  clear h8
  try dsimp only at h9
  have H9 := Aside0.mk h9
  clear h9
  have hm1 : decide (hh < 0) = false := decide_eq_false (by omega)
  have hm2 : (hh != hh) = false := bne_self_eq_false hh
  have hg2 : (gq != gq) = false := bne_self_eq_false gq
  have hx1 : decide (mx < 0) = false := decide_eq_false (by omega)
  clear hl hm
  have HZ := Aside0.mk hz
  clear hz
  clear hm0
  go_enter Try.func9, Try.ntmps9
  have b0 := Aside0.mk (Below.refl w.heap.size w)
  go_wp2_with fail
  refine (HZ.out).mono ?_
  rintro e w1 ⟨rfl, hb_⟩
  have hb_w1 : Below w.heap.size w w1 := by first | exact hb_ | exact hb_.below
  clear hb_
  have c_w_w1 := Aside0.mk (below_step (b0.out) hb_w1)
  have hbb_w1 := Aside0.mk hb_w1
  clear hb_w1
  go_wp2_with fail
  refine (laws_toLetterS.calls k A1 c1 l1 x _ (Kd.C_below HC.out (c_w_w1.out)) HC1.out H2.out).mono ?_
  rintro e w2 ⟨v_, rfl, ho_, hb_⟩
  have hb_w2 : Below w1.heap.size w1 w2 := by first | exact hb_ | exact hb_.below
  clear hb_
  have c_w_w2 := Aside0.mk (below_step (c_w_w1.out) hb_w2)
  have hbb_w2 := Aside0.mk hb_w2
  clear hb_w2
  obtain ⟨AA, cA, rfl⟩ := Kd.R_slice ho_
  have HOA := Aside0.mk ho_
  clear ho_
  go_wp2_with fail
  refine (spec_SilentGroups.calls k a0 AA cA x _ _ _ (Kd.R_reads' (Kd.R_below HOA.out ((Below.refl _ _)))).2.2 (Kd.R_reads' HOA.out).2.1 H3.out).mono ?_
  rintro e w3 ⟨v_, rfl, ho_, hb_⟩
  have hb_w3 : Below w2.heap.size w2 w3 := by first | exact hb_ | exact hb_.below
  clear hb_
  have c_w_w3 := Aside0.mk (below_step (c_w_w2.out) hb_w3)
  have c_w2_w3 := Aside0.mk (below_step ((Below.refl _ _)) hb_w3)
  have hbb_w3 := Aside0.mk hb_w3
  clear hb_w3
  obtain ⟨AW, cW, rfl⟩ := Kd.S_slice ho_
  have HOW := Aside0.mk ho_
  clear ho_
  go_wp2_with fail
  refine (laws_toLetterS.calls k A1 c1 l1 x _ (Kd.C_below HC.out (c_w_w3.out)) HC1.out H2.out).mono ?_
  rintro e w4 ⟨v_, rfl, ho_, hb_⟩
  have hb_w4 : Below w3.heap.size w3 w4 := by first | exact hb_ | exact hb_.below
  clear hb_
  have c_w_w4 := Aside0.mk (below_step (c_w_w3.out) hb_w4)
  have c_w3_w4 := Aside0.mk (below_step ((Below.refl _ _)) hb_w4)
  have hbb_w4 := Aside0.mk hb_w4
  clear hb_w4
  obtain ⟨AX, cX, rfl⟩ := Kd.R_slice ho_
  have HOX := Aside0.mk ho_
  clear ho_
  go_wp2_with fail
  refine (impl_SilentGroups.calls k a0 AX cX x _ _ _ (Kd.R_reads' (Kd.R_below HOX.out ((Below.refl _ _)))).2.2 (Kd.R_reads' HOX.out).2.1 H4.out).mono ?_
  rintro e w5 ⟨v_, rfl, ho_, hb_⟩
  have hb_w5 : Below w4.heap.size w4 w5 := by first | exact hb_ | exact hb_.below
  clear hb_
  have c_w_w5 := Aside0.mk (below_step (c_w_w4.out) hb_w5)
  have c_w3_w5 := Aside0.mk (below_step (c_w3_w4.out) hb_w5)
  have c_w4_w5 := Aside0.mk (below_step ((Below.refl _ _)) hb_w5)
  have hbb_w5 := Aside0.mk hb_w5
  clear hb_w5
  obtain ⟨AG, cG, rfl⟩ := Kd.S_slice ho_
  have HOG := Aside0.mk ho_
  clear ho_
  go_wp2_with fail
  refine (laws_eqIntSS.calls k AG cG g_ AW cW w_ true _ (Kd.S_reads' (Kd.S_below HOG.out ((Below.refl _ _)))).2.2 (Kd.S_reads' HOG.out).2.1 (Kd.S_reads' (Kd.S_below HOW.out (c_w3_w5.out))).2.2 (Kd.S_reads' HOW.out).2.1 H5.out).mono ?_
  rintro e w6 ⟨rfl, hb_⟩
  have hb_w6 : Below w5.heap.size w5 w6 := by first | exact hb_ | exact hb_.below
  clear hb_
  have c_w_w6 := Aside0.mk (below_step (c_w_w5.out) hb_w6)
  have c_w3_w6 := Aside0.mk (below_step (c_w3_w5.out) hb_w6)
  have c_w4_w6 := Aside0.mk (below_step (c_w4_w5.out) hb_w6)
  have c_w5_w6 := Aside0.mk (below_step ((Below.refl _ _)) hb_w6)
  have hbb_w6 := Aside0.mk hb_w6
  clear hb_w6
  go_wp2_with fail
  refine (laws_toLetterS.calls k A1 c1 l1 x _ (Kd.C_below HC.out (c_w_w6.out)) HC1.out H2.out).mono ?_
  rintro e w7 ⟨v_, rfl, ho_, hb_⟩
  have hb_w7 : Below w6.heap.size w6 w7 := by first | exact hb_ | exact hb_.below
  clear hb_
  have c_w_w7 := Aside0.mk (below_step (c_w_w6.out) hb_w7)
  have c_w3_w7 := Aside0.mk (below_step (c_w3_w6.out) hb_w7)
  have c_w4_w7 := Aside0.mk (below_step (c_w4_w6.out) hb_w7)
  have c_w5_w7 := Aside0.mk (below_step (c_w5_w6.out) hb_w7)
  have hbb_w7 := Aside0.mk hb_w7
  clear hb_w7
  obtain ⟨AY, cY, rfl⟩ := Kd.R_slice ho_
  have HOY := Aside0.mk ho_
  clear ho_
  go_wp2_with fail
  refine (laws_eqLetterS.calls k AX cX x AY cY x true _ (Kd.R_reads' (Kd.R_below HOX.out (c_w4_w7.out))).2.2 (Kd.R_reads' HOX.out).2.1 (Kd.R_reads' (Kd.R_below HOY.out ((Below.refl _ _)))).2.2 (Kd.R_reads' HOY.out).2.1 H6.out).mono ?_
  rintro e w8 ⟨rfl, hb_⟩
  have hb_w8 : Below w7.heap.size w7 w8 := by first | exact hb_ | exact hb_.below
  clear hb_
  have c_w_w8 := Aside0.mk (below_step (c_w_w7.out) hb_w8)
  have c_w3_w8 := Aside0.mk (below_step (c_w3_w7.out) hb_w8)
  have c_w4_w8 := Aside0.mk (below_step (c_w4_w7.out) hb_w8)
  have c_w5_w8 := Aside0.mk (below_step (c_w5_w7.out) hb_w8)
  have c_w7_w8 := Aside0.mk (below_step ((Below.refl _ _)) hb_w8)
  have hbb_w8 := Aside0.mk hb_w8
  clear hb_w8
  have HX8 := Aside0.mk (Kd.R_below (Kd.R_bound HOX.out) (c_w4_w8.out))
  have HG8 := Aside0.mk (Kd.S_below (Kd.S_bound HOG.out) (c_w5_w8.out))
  have hle_ : w4.heap.size ≤ w5.heap.size := (hbb_w5.out).size
  go_wp2_with fail
  refine (laws_markLetterS.calls k _ _ x 1 mx xm w3 _ (c_w3_w8.out) HX8.out H7.out).mono ?_
  rintro e w9 ⟨rfl, hx_, hb_, hk_⟩
  have c_w3_w9 := Aside0.mk hb_
  have c_w_w9 := Aside0.mk (below_step c_w_w3.out hb_)
  have HO9 := Aside0.mk (Kd.S_kept HG8.out hk_ (fun k_ hk hs => by have := hk.2.1; have := hs.2.2.1; omega))
  clear hx_ hb_ hk_ hle_
  have HO9G := HO9
  obtain HOGG := HO9
  go_wp2_with fail
  refine (laws_eqIntSS.calls k AG cG g_ AW cW w_ true _ (Kd.S_reads' (Kd.S_below HO9.out ((Below.refl _ _)))).2.2 (Kd.S_reads' HO9.out).2.1 (Kd.S_reads' (Kd.S_below HOW.out (c_w3_w9.out))).2.2 (Kd.S_reads' HOW.out).2.1 H5.out).mono ?_
  rintro e w10 ⟨rfl, hb_⟩
  have hb_w10 : Below w9.heap.size w9 w10 := by first | exact hb_ | exact hb_.below
  clear hb_
  have c_w_w10 := Aside0.mk (below_step (c_w_w9.out) hb_w10)
  have c_w3_w10 := Aside0.mk (below_step (c_w3_w9.out) hb_w10)
  have c_w9_w10 := Aside0.mk (below_step ((Below.refl _ _)) hb_w10)
  have hbb_w10 := Aside0.mk hb_w10
  clear hb_w10
  have HGm := Aside0.mk (Kd.S_lower (Kd.S_below HO9.out (c_w9_w10.out)) (base' := w3.heap.size) ((hbb_w4.out).size))
  go_wp2_with fail
  refine (laws_markIntSS.calls k _ _ g_ 1 hh gm w3 _ (c_w3_w10.out) HGm.out H8.out).mono ?_
  rintro e w11 ⟨rfl, hx_, hb_, hk_⟩
  have HOM := Aside0.mk hx_
  have c_w3_w11 := Aside0.mk hb_
  have c_w_w11 := Aside0.mk (below_step c_w_w3.out hb_)
  clear hx_ hb_ hk_
  have hlm : gm.length = g_.length := (Kd.S_reads' HOM.out).1.symm
  have HLM := Aside0.mk hlm
  clear hlm
  have hH_ := laws_heldIntSS.calls k AG cG gm 1 hh w11 ((Kd.S_reads' (Kd.S_below HOM.out ((Below.refl _ _)))).2.2) (by rw [HLM.out]; exact (Kd.S_reads' HOM.out).2.1) H9.out
  rw [HLM.out] at hH_
  go_wp2_with fail
  refine (hH_).mono ?_
  rintro e w12 ⟨rfl, hb_⟩
  have hb_w12 : Below w11.heap.size w11 w12 := by first | exact hb_ | exact hb_.below
  clear hb_
  have c_w_w12 := Aside0.mk (below_step (c_w_w11.out) hb_w12)
  have c_w3_w12 := Aside0.mk (below_step (c_w3_w11.out) hb_w12)
  have c_w11_w12 := Aside0.mk (below_step ((Below.refl _ _)) hb_w12)
  have hbb_w12 := Aside0.mk hb_w12
  clear hb_w12
  clear hH_
  go_wp2_with fail
  refine (laws_toLetterS.calls k A1 c1 l1 x _ (Kd.C_below HC.out (c_w_w12.out)) HC1.out H2.out).mono ?_
  rintro e w13 ⟨v_, rfl, ho_, hb_⟩
  have hb_w13 : Below w12.heap.size w12 w13 := by first | exact hb_ | exact hb_.below
  clear hb_
  have c_w_w13 := Aside0.mk (below_step (c_w_w12.out) hb_w13)
  have c_w3_w13 := Aside0.mk (below_step (c_w3_w12.out) hb_w13)
  have c_w11_w13 := Aside0.mk (below_step (c_w11_w12.out) hb_w13)
  have hbb_w13 := Aside0.mk hb_w13
  clear hb_w13
  obtain ⟨AZ, cZ, rfl⟩ := Kd.R_slice ho_
  have HOZ := Aside0.mk ho_
  clear ho_
  go_wp2_with fail
  refine (impl_SilentGroups.calls k a0 AZ cZ x _ _ _ (Kd.R_reads' (Kd.R_below HOZ.out ((Below.refl _ _)))).2.2 (Kd.R_reads' HOZ.out).2.1 H4.out).mono ?_
  rintro e w14 ⟨v_, rfl, ho_, hb_⟩
  have hb_w14 : Below w13.heap.size w13 w14 := by first | exact hb_ | exact hb_.below
  clear hb_
  have c_w_w14 := Aside0.mk (below_step (c_w_w13.out) hb_w14)
  have c_w3_w14 := Aside0.mk (below_step (c_w3_w13.out) hb_w14)
  have c_w11_w14 := Aside0.mk (below_step (c_w11_w13.out) hb_w14)
  have c_w13_w14 := Aside0.mk (below_step ((Below.refl _ _)) hb_w14)
  have hbb_w14 := Aside0.mk hb_w14
  clear hb_w14
  obtain ⟨AH, cH, rfl⟩ := Kd.S_slice ho_
  have HOH := Aside0.mk ho_
  clear ho_
  go_wp2_with fail
  refine (laws_eqIntSS.calls k AH cH g_ AW cW w_ true _ (Kd.S_reads' (Kd.S_below HOH.out ((Below.refl _ _)))).2.2 (Kd.S_reads' HOH.out).2.1 (Kd.S_reads' (Kd.S_below HOW.out (c_w3_w14.out))).2.2 (Kd.S_reads' HOW.out).2.1 H5.out).mono ?_
  rintro e w15 ⟨rfl, hb_⟩
  have hb_w15 : Below w14.heap.size w14 w15 := by first | exact hb_ | exact hb_.below
  clear hb_
  have c_w_w15 := Aside0.mk (below_step (c_w_w14.out) hb_w15)
  have c_w3_w15 := Aside0.mk (below_step (c_w3_w14.out) hb_w15)
  have c_w11_w15 := Aside0.mk (below_step (c_w11_w14.out) hb_w15)
  have c_w13_w15 := Aside0.mk (below_step (c_w13_w14.out) hb_w15)
  have c_w14_w15 := Aside0.mk (below_step ((Below.refl _ _)) hb_w15)
  have hbb_w15 := Aside0.mk hb_w15
  clear hb_w15
  have hH_ := laws_heldIntSS.calls k AG cG gm 1 hh w15 ((Kd.S_reads' (Kd.S_below HOM.out (c_w11_w15.out))).2.2) (by rw [HLM.out]; exact (Kd.S_reads' HOM.out).2.1) H9.out
  rw [HLM.out] at hH_
  go_wp2_with fail
  refine (hH_).mono ?_
  rintro e w16 ⟨rfl, hb_⟩
  have hb_w16 : Below w15.heap.size w15 w16 := by first | exact hb_ | exact hb_.below
  clear hb_
  have c_w_w16 := Aside0.mk (below_step (c_w_w15.out) hb_w16)
  have c_w3_w16 := Aside0.mk (below_step (c_w3_w15.out) hb_w16)
  have c_w11_w16 := Aside0.mk (below_step (c_w11_w15.out) hb_w16)
  have c_w13_w16 := Aside0.mk (below_step (c_w13_w15.out) hb_w16)
  have c_w14_w16 := Aside0.mk (below_step (c_w14_w15.out) hb_w16)
  have hbb_w16 := Aside0.mk hb_w16
  clear hb_w16
  clear hH_
  go_wp2_with fail
  go_ret
  exact ⟨rfl, c_w_w16.out⟩


end Go.Proofs.Ytelhjfalkhmhkaa.PFnExactSilentGroups
