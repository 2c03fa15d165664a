-- Written by the session's mkprint.py over the kit's print.py (function texts marked OURS are the session's own).
import Derived.Test.YtchdgmamkafcnaaPFnExactHeardFromx0
import Derived.Test.YtchdgmamkafcnaaHBase
import Derived.Test.YtchdgmamkafcnaaHIndices
import Derived.Test.YtchdgmamkafcnaaPFnExactHeardFromx10
import Derived.Test.YtchdgmamkafcnaaPFnExactHeardFromx8
import Derived.Test.YtchdgmamkafcnaaPFnExactHeardFromx9
namespace Go.Proofs.Ytchdgmamkafcnaa.PFnExactHeardFrom
open Go.RowKit Go.Proofs.YtchdgmamkafcnaaW.PrintWords Go.Proofs.YtchdgmamkafcnaaW.PrintLast Go.Proofs.YtchdgmamkafcnaaW.PrintMore
attribute [local go_sem] max2_int min2_int max_two min_two max_three min_three max_four min_four   -- for this text's walks alone
set_option linter.unusedVariables false
set_option linter.unusedSimpArgs false

/-! ### impl_HeardFromLit1: function 81 -/
def impl_HeardFromLit1.f (a0 : Int) (l1 : List Int) (a2 : Int) : Option (Bool) := if 0 ≤ a0 then (if a0 < (l1.length : Int) then (if 0 ≤ a2 then (some ((Go.bits .and .u16 (shr .u16 (rd l1 a0) a2) 1) == 1)) else (none)) else (none)) else (none)
set_option maxHeartbeats 8000000 in
set_option maxRecDepth 100000 in
theorem impl_HeardFromLit1.calls (a0 : Int) (A1 : Option Addr) (c1 : Nat) (l1 : List Int) (a2 : Int) (r : Bool) (w : World) (hr1 : Kd.C (Kd.int .u16) w A1 l1.length l1) (hc1 : l1.length ≤ c1) (h : impl_HeardFromLit1.f a0 l1 a2 = some r) (g0_ : Nat) (g1_ : Nat) (hg0_ : w.cell? ⟨g0_, 0, none⟩ = some (.slice A1 l1.length c1)) (hg1_ : w.cell? ⟨g1_, 0, none⟩ = some (.int .i64 a2)) :
    Calls Try.prog 81 #[.int .i64 a0, .pointer (some ⟨g0_, 0, none⟩), .pointer (some ⟨g1_, 0, none⟩)] w fun e w' => e = .returned (.bool r) ∧ Drawn0 w w' := by
  have HG0_ := Aside0.mk hg0_
  have HG1_ := Aside0.mk hg1_
  have HR1 := Aside0.mk hr1
  have HC1 := Aside0.mk hc1
  clear hr1 hc1
  have H : (if 0 ≤ a0 then (if a0 < (l1.length : Int) then (if 0 ≤ a2 then (some ((Go.bits .and .u16 (shr .u16 (rd l1 a0) a2) 1) == 1)) else (none)) else (none)) else (none)) = some r := h
  clear h
  by_cases c4 : 0 ≤ a0
  · rw [if_pos c4] at H
    have c4b0 : decide (0 ≤ a0) = true := decide_eq_true c4
    clear c4
    by_cases c5 : a0 < (l1.length : Int)
    · rw [if_pos c5] at H
      have c5b0 : decide (a0 < (l1.length : Int)) = true := decide_eq_true c5
      clear c5
      by_cases c6 : 0 ≤ a2
      · rw [if_pos c6] at H
        have c6b0 := eq_true c6
        have c6b1 : decide (0 ≤ a2) = true := decide_eq_true c6
        clear c6
        obtain ⟨ji7, hji7⟩ : ∃ j_ : Int, (shr .u16 (rd l1 a0) a2) = j_ := ⟨_, rfl⟩
        replace H : (some ((Go.bits .and .u16 (ji7) 1) == 1)) = some r := by first | (rw [hji7] at H; exact H) | (simp only [hji7] at H ⊢; exact H)
        have hji7_ : ((rd l1 a0) / 2 ^ min a2.toNat 16) = ji7 := hji7
        have hji7z : a2 ≤ 16 → ((rd l1 a0) / 2 ^ a2.toNat) = ji7 := shr_small hji7
        obtain rfl := Option.some.inj H
        have p171 : 0 ≤ (a0 : Int) := of_decide_eq_true (by first | (with_reducible assumption) | assumption)
        have q171 : a0 < (l1.length : Int) := of_decide_eq_true (by first | (with_reducible assumption) | assumption)
        obtain ⟨ad171, e171, hx171_0⟩ := Kd.at_int HR1.out a0 p171 q171
        cases e171
        replace p171 := eq_true p171
        replace q171 := eq_true q171
        go_enter Try.func81, Try.ntmps81
        go_wp2
        repeat (go_quiet (fail); try go_wp2)
        go_ret
        exact ⟨by first | rfl | (simp; done) | (simp only [← hji7] <;> (first | rfl | simp)) | (simp [*]; done), by repeat (first | exact Drawn0.refl _ | apply Drawn0.step)⟩
      · rw [if_neg c6] at H
        exact absurd H (by simp)
    · rw [if_neg c5] at H
      exact absurd H (by simp)
  · rw [if_neg c4] at H
    exact absurd H (by simp)

/-! ### impl_HeardFrom: OURS: function 39 -/
def impl_HeardFrom.f (k : Nat) (a0 : Int) (l1 : List S59) (a2 : Int) : Option (List Int × Bool) := (impl_areArrows.f a0 l1).bind fun t => if t = true then ((impl_isFriend.f a0 a2).bind fun q => if q = true then ((impl_heard.f k a0 l1).bind fun kn => if 0 ≤ a0 then ((Go.Proofs.Ytchdgmamkafcnaa.H.idxO (fun i => impl_HeardFromLit1.f (i : Int) kn a2) a0.toNat).bind fun x => some (x, true)) else none) else some ([], false)) else some ([], false)
theorem impl_HeardFrom.mono : ∀ a0 a1 a2 k, LeO (impl_HeardFrom.f k a0 a1 a2) (impl_HeardFrom.f (k + 1) a0 a1 a2) := fun a0 a1 a2 k => LeO.bind (LeO.refl _) (fun _ => LeO.ite (LeO.bind (LeO.refl _) (fun _ => LeO.ite (LeO.bind (impl_heard.mono _ _ _) (fun _ => LeO.refl _)) (LeO.refl _))) (LeO.refl _))
theorem heardF_pred (a2 : Int) (A : Option Addr) (cp : Nat) (l : List Int) (hcp : l.length ≤ cp) (m : Nat) (hv : ∀ i, i < m → ∃ b, impl_HeardFromLit1.f ((i : Nat) : Int) l a2 = some b) (g1 g2 : Nat) (w : World) (hC : Kd.C (Kd.int .u16) w A l.length l) (hg1 : w.cell? ⟨g1, 0, none⟩ = some (.slice A l.length cp)) (hg2 : w.cell? ⟨g2, 0, none⟩ = some (.int .i64 a2)) :
    Go.Proofs.Ytchdgmamkafcnaa.H.PredIdx 81 #[.pointer (some ⟨g1, 0, none⟩), .pointer (some ⟨g2, 0, none⟩)] m (fun i => impl_HeardFromLit1.f (i : Int) l a2 == some true) w := by
  intro W k hb hk
  have h1 := Go.Proofs.Ytchdgmamkafcnaa.H.cell_b hb hg1
  have h2 := Go.Proofs.Ytchdgmamkafcnaa.H.cell_b hb hg2
  obtain ⟨b, hbb⟩ := hv k hk
  have hc := impl_HeardFromLit1.calls (k : Int) A cp l a2 b W (Kd.C_below hC hb) hcp hbb g1 g2 h1 h2
  have e : (impl_HeardFromLit1.f (k : Int) l a2 == some true) = b := by rw [hbb]; cases b <;> rfl
  show Calls _ _ #[.int .i64 (k : Int), .pointer (some ⟨g1, 0, none⟩), .pointer (some ⟨g2, 0, none⟩)] W fun e w' => e = .returned (.bool (impl_HeardFromLit1.f (k : Int) l a2 == some true)) ∧ Below W.heap.size W w'
  rw [e]
  refine hc.mono ?_
  rintro e w2 ⟨rfl, hx⟩
  exact ⟨rfl, by first | exact hx | (obtain ⟨nd, rfl⟩ := hx; exact pw_below_drewN (Below.refl _ _) _)⟩
set_option maxHeartbeats 1000000 in
set_option maxRecDepth 100000 in
theorem impl_HeardFrom.calls (k : Nat) (a0 : Int) (A1 : Option Addr) (c1 : Nat) (l1 : List S59) (a2 : Int) (r1 : List Int) (r2 : Bool) (w : World) (hr1 : Kd.C k59 w A1 l1.length l1) (hc1 : l1.length ≤ c1) (h : impl_HeardFrom.f k a0 l1 a2 = some (r1, r2)) :
    Calls Try.prog 39 #[.int .i64 a0, .slice A1 l1.length c1, .int .i64 a2] w fun e w' => ∃ v0_ : Value, e = .returned (.tuple #[v0_, .bool r2]) ∧ Kd.R (Kd.int .i64) 3 w' w.heap.size (fun _ => True) v0_ r1 ∧ Below w.heap.size w w' := by
  obtain ⟨t, ht, h'⟩ := Option.bind_eq_some_iff.1 h
  clear h
  have HR := Aside0.mk hr1
  have hA := fun W2 hx => impl_areArrows.calls a0 A1 c1 l1 t W2 hx hc1 ht
  clear hr1 ht
  have B1 : (w.alloc (.cells #[.int .i64 a2] 3 (0, 0))).heap[w.heap.size]? = some (.cells #[.int .i64 a2] 3 (0, 0)) := blk_new _ _
  have HB1 := Aside0.mk B1
  clear B1
  cases t with
  | false =>
    simp only [Bool.false_eq_true, if_false, Option.some.injEq, Prod.mk.injEq] at h'
    obtain ⟨rfl, rfl⟩ := h'
    go_enter Try.func39, Try.ntmps39
    go_wp2_with (go_at_call 77; refine (hA _ (Kd.C_alloc HR.out _)).mono ?_; rintro e w1 ⟨rfl, hb⟩)
    go_ret2
    exact ⟨_, rfl, Kd.R_nil _ _ _ _ _, below_step (below_alloc (Below.refl _ _) _) hb⟩
  | true =>
    simp only [if_true] at h'
    obtain ⟨q, hq, h2⟩ := Option.bind_eq_some_iff.1 h'
    clear h'
    have hI := fun W2 => impl_isFriend.calls a0 a2 q W2 hq
    clear hq
    cases q with
    | false =>
      simp only [Bool.false_eq_true, if_false, Option.some.injEq, Prod.mk.injEq] at h2
      obtain ⟨rfl, rfl⟩ := h2
      go_enter Try.func39, Try.ntmps39
      go_wp2_with (first | (go_at_call 77; refine (hA _ (Kd.C_alloc HR.out _)).mono ?_; rintro e w1 ⟨rfl, hb⟩; have x1 := (blk_cell (blk_below HB1.out hb) 0).trans rfl) | (go_at_call 59; refine (hI _).mono ?_; rintro e w2 ⟨rfl, ⟨nd, rfl⟩⟩))
      go_ret2
      exact ⟨_, rfl, Kd.R_nil _ _ _ _ _, pw_below_drewN (below_step (below_alloc (Below.refl _ _) _) hb) _⟩
    | true =>
      simp only [if_true] at h2
      obtain ⟨kn, hkn, h3⟩ := Option.bind_eq_some_iff.1 h2
      clear h2
      by_cases h0 : 0 ≤ a0
      case neg => rw [if_neg h0] at h3; cases h3
      rw [if_pos h0] at h3
      obtain ⟨x, hx, h4⟩ := Option.bind_eq_some_iff.1 h3
      clear h3
      obtain ⟨hl, hv, rfl⟩ := Go.Proofs.Ytchdgmamkafcnaa.H.idxO_inv hx
      clear hx
      have h5 := Option.some.inj h4
      clear h4
      simp only [Prod.mk.injEq] at h5
      obtain ⟨rfl, rfl⟩ := h5
      have hH := fun W2 hx => impl_heard.calls k a0 A1 c1 l1 kn W2 hx hc1 hkn
      clear hkn
      have eg := enters_of Try.func81 (by kernel_rfl) rfl
      have hX := fun A cp hcp g1 W2 hx hy hz => Go.Proofs.Ytchdgmamkafcnaa.H.indices_c a0.toNat hl _ 81 #[.pointer (some ⟨g1, 0, none⟩), .pointer (some ⟨w.heap.size, 0, none⟩)] eg W2 (heardF_pred a2 A cp kn hcp a0.toNat hv g1 w.heap.size W2 hx hy hz)
      have e0 : ((a0.toNat : Nat) : Int) = a0 := by omega
      rw [e0] at hX
      have HX := Aside0.mk hX
      clear hX hv
      go_enter Try.func39, Try.ntmps39
      go_wp2_with (first | (go_at_call 77; refine (hA _ (Kd.C_alloc HR.out _)).mono ?_; rintro e w1 ⟨rfl, hb⟩; have x1 := (blk_cell (blk_below HB1.out hb) 0).trans rfl; have HBB := Aside0.mk hb; clear hb) | (go_at_call 59; refine (hI _).mono ?_; rintro e w2 ⟨rfl, ⟨nd, rfl⟩⟩) | (go_at_call 78; refine (hH _ (Kd.C_drewN (Kd.C_below (Kd.C_alloc HR.out (.cells #[.int .i64 a2] 3 (0, 0))) HBB.out) nd)).mono ?_; rintro e w3 ⟨v3, rfl, ho, hb3⟩; obtain ⟨A3, c3, rfl⟩ := Kd.R_slice ho; have HO3 := Aside0.mk ho; have HB3 := Aside0.mk hb3; clear ho hb3) | (go_at_call 80; refine (HX.out A3 c3 (Kd.R_reads' HO3.out).2.1 w3.heap.size _ (Kd.C_alloc (Kd.R_reads' HO3.out).2.2 _) ((blk_cell (blk_new _ _) 0).trans rfl) ((blk_cell (blk_alloc (blk_below (blk_drewN (blk_below HB1.out HBB.out) nd) HB3.out) _) 0).trans rfl)).mono ?_; rintro e w4 ⟨v4, rfl, ho4, hb4⟩))
      go_ret2
      have b4 := below_alloc (below_step (pw_below_drewN (below_step (below_alloc (Below.refl w.heap.size w) (.cells #[.int .i64 a2] 3 (0, 0))) HBB.out) nd) HB3.out) (.cells #[.slice A3 kn.length c3] 74 (0, 0))
      exact ⟨_, rfl, Kd.R_lower ho4 (below_size b4), below_step b4 hb4⟩


end Go.Proofs.Ytchdgmamkafcnaa.PFnExactHeardFrom
