-- Written by the session's mkprint.py over the kit's print.py (function texts marked OURS are the session's own).
import Derived.Test.YtdlmopgblcakaaaPFnExactAreCallsInNetx0
import Derived.Test.YtdlmopgblcakaaaHContCall
import Derived.Test.YtdlmopgblcakaaaPFnExactAreCallsInNetx14
import Derived.Test.YtdlmopgblcakaaaPFnExactAreCallsInNetx15
namespace Go.Proofs.Ytdlmopgblcakaaa.PFnExactAreCallsInNet
open Go.RowKit Go.Proofs.YtdlmopgblcakaaaW.PrintWords Go.Proofs.YtdlmopgblcakaaaW.PrintLast Go.Proofs.YtdlmopgblcakaaaW.PrintMore
attribute [local go_sem] max2_int min2_int max_two min_two max_three min_three max_four min_four   -- for this text's walks alone
set_option linter.unusedVariables false
set_option linter.unusedSimpArgs false

/-! ### impl_AreCallsInNet: OURS: function 33 -/
def hasB (l : List S54) (u v : Int) : Bool := l.any fun c => c.f0 == u && c.f1 == v
def impl_AreCallsInNet.f (k : Nat) (a0 : Int) (l1 : List S54) (l2 : List S54) : Option (Bool × Bool) := (impl_ArePairs.f k a0 l1).bind fun t => if t = true then ((impl_AreCalls.f a0 l2).bind fun q => if q = true then (if l1.length ≤ 1048576 then some (!(l2.any fun c => !hasB l1 c.f0 c.f1), true) else none) else some (false, false)) else some (false, false)
theorem impl_AreCallsInNet.mono : ∀ a0 a1 a2 k, LeO (impl_AreCallsInNet.f k a0 a1 a2) (impl_AreCallsInNet.f (k + 1) a0 a1 a2) := fun a0 a1 a2 k => LeO.bind (impl_ArePairs.mono _ _ _) (fun _ => LeO.refl _)
theorem inNet_index (l : List S54) (h : l.length ≤ 1048576) (u v : Int) : ∀ (d i : Nat), i + d = l.length →
    ∃ k n, impl_Call_84.l0 k l (l.length : Int) (i : Int) u v = some n ∧ decide (n ≥ 0) = (l.drop i).any (fun c => c.f0 == u && c.f1 == v)
  | 0, i, hi => ⟨1, -1, by simp only [impl_Call_84.l0]; rw [if_neg (by omega)], by rw [List.drop_eq_nil_of_le (by omega)]; rfl⟩
  | d + 1, i, hi => by
    have hlt : i < l.length := by omega
    have hd : l.drop i = l.getD i z54 :: l.drop (i + 1) := by
      rw [List.drop_eq_getElem_cons hlt, List.getD_eq_getElem?_getD, List.getElem?_eq_getElem hlt]; rfl
    have e : rd_T54 l (i : Int) = l.getD i z54 := rfl
    have w : wrap64 ((i : Int) + 1) = ((i + 1 : Nat) : Int) := by unfold wrap64; omega
    obtain ⟨k, n, hk, hn⟩ := inNet_index l h u v d (i + 1) (by omega)
    by_cases hq : (u == (l.getD i z54).f0 && v == (l.getD i z54).f1) = true
    · refine ⟨k + 1, (i : Int), ?_, ?_⟩
      · simp only [impl_Call_84.l0, e]
        rw [if_pos (by omega), if_pos (by omega), if_pos (by omega), if_pos hq]
      · rw [hd, List.any_cons, Bool.beq_comm (a := (l.getD i z54).f0), Bool.beq_comm (a := (l.getD i z54).f1), hq]; simp
    · refine ⟨k + 1, n, ?_, ?_⟩
      · simp only [impl_Call_84.l0, e]
        rw [if_pos (by omega), if_pos (by omega), if_pos (by omega), if_neg hq, w]
        exact hk
      · rw [hd, List.any_cons, Bool.beq_comm (a := (l.getD i z54).f0), Bool.beq_comm (a := (l.getD i z54).f1), Bool.eq_false_iff.2 hq, Bool.false_or]; exact hn
theorem inNet_contains (l : List S54) (h : l.length ≤ 1048576) (u v : Int) : ∃ k, impl_Call_65.f k l u v = some (hasB l u v) := by
  obtain ⟨k, n, hk, hn⟩ := inNet_index l h u v l.length 0 (by omega)
  refine ⟨k, ?_⟩
  unfold impl_Call_65.f impl_Call_84.f
  rw [show ((0 : Nat) : Int) = 0 from rfl] at hk
  rw [hk, Option.bind_some, hn, List.drop_zero]
  rfl
set_option maxHeartbeats 1000000 in
set_option maxRecDepth 100000 in
theorem inNet_lit (A : Option Addr) (cp : Nat) (l : List S54) (hcp : l.length ≤ cp) (hl : l.length ≤ 1048576) (g : Nat) (w : World) (hC : Kd.C k54 w A l.length l) (hg : w.cell? ⟨g, 0, none⟩ = some (.slice A l.length cp)) :
    Go.Proofs.Ytdlmopgblcakaaa.H.PredCall 64 #[.pointer (some ⟨g, 0, none⟩)] S54.f0 S54.f1 (fun c => !hasB l c.f0 c.f1) w := by
  rintro W ⟨a, b⟩ hb
  have hc0 : W.cell? ⟨g, 0, none⟩ = some (.slice A l.length cp) := Go.Proofs.Ytdlmopgblcakaaa.H.cell_b hb hg
  have hc1 : ∀ o, (W.alloc o).cell? ⟨g, 0, none⟩ = some (.slice A l.length cp) := fun o => Go.Proofs.Ytdlmopgblcakaaa.H.cell_b (below_alloc (Below.refl _ _) o) hc0
  have HC := Aside0.mk (fun o => Kd.C_alloc (Kd.C_below hC hb) o)
  clear hc0
  have hB := Aside0.mk hb
  clear hb hg hC
  show Calls _ _ #[.agg #[.int .i64 a, .int .i64 b], .pointer (some ⟨g, 0, none⟩)] W fun e w' => e = .returned (.bool (!hasB l a b)) ∧ Below w.heap.size w w'
  obtain ⟨k, hk⟩ := inNet_contains l hl a b
  have hcall := fun W2 hx => impl_Call_65.calls k A cp l a b _ W2 hx hcp hk
  clear hk hl hcp
  generalize hasB l a b = q at hcall ⊢
  have hu := Try.underlying54
  go_enter Try.func64, Try.ntmps64
  go_wp2_with (go_at_call 65; refine (hcall _ (HC.out _)).mono ?_; rintro e w' ⟨rfl, hb'⟩)
  go_ret
  exact ⟨rfl, by first | exact below_step (below_alloc hB.out _) hb' | (obtain ⟨nd, rfl⟩ := hb'; exact pw_below_drewN (below_alloc hB.out _) _)⟩
set_option maxHeartbeats 1000000 in
set_option maxRecDepth 100000 in
theorem impl_AreCallsInNet.calls (k : Nat) (a0 : Int) (A1 : Option Addr) (c1 : Nat) (l1 : List S54) (A2 : Option Addr) (c2 : Nat) (l2 : List S54) (r1 : Bool) (r2 : Bool) (w : World) (hr1 : Kd.C k54 w A1 l1.length l1) (hc1 : l1.length ≤ c1) (hr2 : Kd.C k54 w A2 l2.length l2) (hc2 : l2.length ≤ c2) (h : impl_AreCallsInNet.f k a0 l1 l2 = some (r1, r2)) :
    Calls Try.prog 33 #[.int .i64 a0, .slice A1 l1.length c1, .slice A2 l2.length c2] w fun e w' => e = .returned (.tuple #[.bool r1, .bool r2]) ∧ Below w.heap.size w w' := by
  obtain ⟨t, ht, h'⟩ := Option.bind_eq_some_iff.1 h
  clear h
  have HR1 := Aside0.mk hr1
  have HR2 := Aside0.mk hr2
  have hP := fun W2 hx => impl_ArePairs.calls k a0 A1 c1 l1 t W2 hx hc1 ht
  clear hr1 hr2 ht
  have B1 : (w.alloc (.cells #[.slice A1 l1.length c1] 22 (0, 0))).heap[w.heap.size]? = some (.cells #[.slice A1 l1.length c1] 22 (0, 0)) := blk_new _ _
  have HB1 := Aside0.mk B1
  clear B1
  cases t with
  | false =>
    simp only [Bool.false_eq_true, if_false, Option.some.injEq, Prod.mk.injEq] at h'
    obtain ⟨rfl, rfl⟩ := h'
    go_enter Try.func33, Try.ntmps33
    go_wp2_with (go_at_call 22; refine (hP _ (Kd.C_alloc HR1.out _)).mono ?_; rintro e w1 ⟨rfl, hb⟩; first | (obtain ⟨nd, rfl⟩ := hb; have hb := pw_below_drewN (Below.refl (w.alloc (.cells #[.slice A1 l1.length c1] 22 (0, 0))).heap.size (w.alloc (.cells #[.slice A1 l1.length c1] 22 (0, 0)))) nd) | skip)
    go_ret2
    exact ⟨rfl, below_step (below_alloc (Below.refl _ _) _) hb⟩
  | true =>
    simp only [if_true] at h'
    obtain ⟨q, hq, h2⟩ := Option.bind_eq_some_iff.1 h'
    clear h'
    have hA := fun W2 hx => impl_AreCalls.calls a0 A2 c2 l2 q W2 hx hc2 hq
    clear hq
    cases q with
    | false =>
      simp only [Bool.false_eq_true, if_false, Option.some.injEq, Prod.mk.injEq] at h2
      obtain ⟨rfl, rfl⟩ := h2
      go_enter Try.func33, Try.ntmps33
      go_wp2_with (first | (go_at_call 22; refine (hP _ (Kd.C_alloc HR1.out _)).mono ?_; rintro e w1 ⟨rfl, hb⟩; first | (obtain ⟨nd, rfl⟩ := hb; have hb := pw_below_drewN (Below.refl (w.alloc (.cells #[.slice A1 l1.length c1] 22 (0, 0))).heap.size (w.alloc (.cells #[.slice A1 l1.length c1] 22 (0, 0)))) nd) | skip) | (go_at_call 62; refine (hA _ (Kd.C_below (Kd.C_alloc HR2.out (.cells #[.slice A1 l1.length c1] 22 (0, 0))) hb)).mono ?_; rintro e w2 ⟨rfl, hb2⟩))
      go_ret2
      exact ⟨rfl, below_step (below_step (below_alloc (Below.refl _ _) _) hb) hb2⟩
    | true =>
      simp only [if_true] at h2
      by_cases hl : l1.length ≤ 1048576
      case neg => rw [if_neg hl] at h2; cases h2
      rw [if_pos hl] at h2
      have h3 := Option.some.inj h2
      clear h2
      simp only [Prod.mk.injEq] at h3
      obtain ⟨rfl, rfl⟩ := h3
      have eg := enters_of Try.func64 (by kernel_rfl) rfl
      have hX := fun W2 hx hx2 hy => Go.Proofs.Ytdlmopgblcakaaa.H.containsFuncCall (d := k54) (fa := S54.f0) (fb := S54.f1) rfl (fun _ _ _ h => k54_open h) (fun c => !hasB l1 c.f0 c.f1) 64 #[.pointer (some ⟨w.heap.size, 0, none⟩)] eg A2 c2 l2 W2 hx (inNet_lit A1 c1 l1 hc1 hl w.heap.size W2 hx2 hy)
      generalize (l2.any fun c => !hasB l1 c.f0 c.f1) = qq at hX ⊢
      have HX := Aside0.mk hX
      clear hX
      go_enter Try.func33, Try.ntmps33
      go_wp2_with (first | (go_at_call 22; refine (hP _ (Kd.C_alloc HR1.out _)).mono ?_; rintro e w1 ⟨rfl, hb⟩; first | (obtain ⟨nd, rfl⟩ := hb; have hb := pw_below_drewN (Below.refl (w.alloc (.cells #[.slice A1 l1.length c1] 22 (0, 0))).heap.size (w.alloc (.cells #[.slice A1 l1.length c1] 22 (0, 0)))) nd) | skip) | (go_at_call 62; refine (hA _ (Kd.C_below (Kd.C_alloc HR2.out (.cells #[.slice A1 l1.length c1] 22 (0, 0))) hb)).mono ?_; rintro e w2 ⟨rfl, hb2⟩) | (go_at_call 63; refine (HX.out _ (Kd.C_below (Kd.C_below (Kd.C_alloc HR2.out _) hb) hb2) (Kd.C_below (Kd.C_below (Kd.C_alloc HR1.out _) hb) hb2) ((blk_cell (blk_below (blk_below HB1.out hb) hb2) 0).trans rfl)).mono ?_; rintro e w3 ⟨rfl, hb3⟩))
      go_ret2
      exact ⟨rfl, below_step (below_step (below_step (below_alloc (Below.refl _ _) _) hb) hb2) hb3⟩


end Go.Proofs.Ytdlmopgblcakaaa.PFnExactAreCallsInNet
