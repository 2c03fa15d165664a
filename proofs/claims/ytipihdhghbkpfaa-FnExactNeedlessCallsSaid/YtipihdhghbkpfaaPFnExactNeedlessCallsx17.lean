-- Written by the session's mkprint.py over the kit's print.py (function texts marked OURS are the session's own).
import Derived.Test.YtipihdhghbkpfaaPFnExactNeedlessCallsx0
import Derived.Test.YtipihdhghbkpfaaHIndices
import Derived.Test.YtipihdhghbkpfaaPFnExactNeedlessCallsx13
import Derived.Test.YtipihdhghbkpfaaPFnExactNeedlessCallsx14
import Derived.Test.YtipihdhghbkpfaaPFnExactNeedlessCallsx16
namespace Go.Proofs.Ytipihdhghbkpfaa.PFnExactNeedlessCalls
open Go.RowKit Go.Proofs.YtipihdhghbkpfaaW.PrintWords Go.Proofs.YtipihdhghbkpfaaW.PrintLast Go.Proofs.YtipihdhghbkpfaaW.PrintMore
attribute [local go_sem] max2_int min2_int max_two min_two max_three min_three max_four min_four   -- for this text's walks alone
set_option linter.unusedVariables false
set_option linter.unusedSimpArgs false

/-! ### impl_NeedlessCalls: OURS: function 47 -/
def impl_NeedlessCalls.f (k : Nat) (a0 : Int) (l1 : List S53) : Option (List Int × Bool) := (impl_AreCalls.f a0 l1).bind fun t => if t = true then ((impl_after.f k a0 l1).bind fun kn => (Go.Proofs.Ytipihdhghbkpfaa.H.idxO (fun i => impl_NeedlessCallsLit1.f k (i : Int) a0 l1 kn) l1.length).bind fun x => some (x, true)) else some ([], false)
theorem impl_NeedlessCalls.mono : ∀ a0 a1 k, LeO (impl_NeedlessCalls.f k a0 a1) (impl_NeedlessCalls.f (k + 1) a0 a1) := fun a0 a1 k => LeO.bind (LeO.refl _) (fun _ => LeO.ite (LeO.bind (impl_after.mono _ _ _) (fun _ => LeO.bind (Go.Proofs.Ytipihdhghbkpfaa.H.idxO_mono (fun i => impl_NeedlessCallsLit1.mono _ _ _ _ _)) (fun _ => LeO.refl _))) (LeO.refl _))
theorem needless_pred (kq : Nat) (n : Int) (A : Option Addr) (cp : Nat) (l : List S53) (hcp : l.length ≤ cp) (A3 : Option Addr) (c3 : Nat) (kn : List Int) (hc3 : kn.length ≤ c3) (hv : ∀ i, i < l.length → ∃ b, impl_NeedlessCallsLit1.f kq ((i : Nat) : Int) n l kn = some b) (g1 g2 g3 : Nat) (w : World) (hC : Kd.C k53 w A l.length l) (hC3 : Kd.C (Kd.int .u16) w A3 kn.length kn) (hg1 : w.cell? ⟨g1, 0, none⟩ = some (.int .i64 n)) (hg2 : w.cell? ⟨g2, 0, none⟩ = some (.slice A l.length cp)) (hg3 : w.cell? ⟨g3, 0, none⟩ = some (.slice A3 kn.length c3)) :
    Go.Proofs.Ytipihdhghbkpfaa.H.PredIdx 80 #[.pointer (some ⟨g1, 0, none⟩), .pointer (some ⟨g2, 0, none⟩), .pointer (some ⟨g3, 0, none⟩)] l.length (fun i => impl_NeedlessCallsLit1.f kq (i : Int) n l kn == some true) w := by
  intro W k hb hk
  have h1 := Go.Proofs.Ytipihdhghbkpfaa.H.cell_b hb hg1
  have h2 := Go.Proofs.Ytipihdhghbkpfaa.H.cell_b hb hg2
  have h3 := Go.Proofs.Ytipihdhghbkpfaa.H.cell_b hb hg3
  obtain ⟨b, hbb⟩ := hv k hk
  have hc := impl_NeedlessCallsLit1.calls kq (k : Int) n A cp l A3 c3 kn b W (Kd.C_below hC hb) hcp (Kd.C_below hC3 hb) hc3 hbb g1 g2 g3 h1 h2 h3
  have e : (impl_NeedlessCallsLit1.f kq (k : Int) n l kn == some true) = b := by rw [hbb]; cases b <;> rfl
  show Calls _ _ #[.int .i64 (k : Int), .pointer (some ⟨g1, 0, none⟩), .pointer (some ⟨g2, 0, none⟩), .pointer (some ⟨g3, 0, none⟩)] W fun e w' => e = .returned (.bool (impl_NeedlessCallsLit1.f kq (k : Int) n l kn == some true)) ∧ Below W.heap.size W w'
  rw [e]
  refine hc.mono ?_
  rintro e w2 ⟨rfl, hx⟩
  exact ⟨rfl, by first | exact hx | (obtain ⟨nd, rfl⟩ := hx; exact pw_below_drewN (Below.refl _ _) _)⟩
set_option maxHeartbeats 1000000 in
set_option maxRecDepth 100000 in
theorem impl_NeedlessCalls.calls (k : Nat) (a0 : Int) (A1 : Option Addr) (c1 : Nat) (l1 : List S53) (r1 : List Int) (r2 : Bool) (w : World) (hr1 : Kd.C k53 w A1 l1.length l1) (hc1 : l1.length ≤ c1) (h : impl_NeedlessCalls.f k a0 l1 = some (r1, r2)) :
    Calls Try.prog 47 #[.int .i64 a0, .slice A1 l1.length c1] w fun e w' => ∃ v0_ : Value, e = .returned (.tuple #[v0_, .bool r2]) ∧ Kd.R (Kd.int .i64) 3 w' w.heap.size (fun _ => True) v0_ r1 ∧ Below w.heap.size w w' := by
  obtain ⟨t, ht, h'⟩ := Option.bind_eq_some_iff.1 h
  clear h
  have HR := Aside0.mk hr1
  have hA := fun W2 hx => impl_AreCalls.calls a0 A1 c1 l1 t W2 hx hc1 ht
  clear hr1 ht
  have B1 : ((w.alloc (.cells #[.int .i64 a0] 3 (0, 0))).alloc (.cells #[.slice A1 l1.length c1] 25 (0, 0))).heap[w.heap.size]? = some (.cells #[.int .i64 a0] 3 (0, 0)) := blk_alloc (blk_new _ _) _
  have B2 : ((w.alloc (.cells #[.int .i64 a0] 3 (0, 0))).alloc (.cells #[.slice A1 l1.length c1] 25 (0, 0))).heap[w.heap.size + 1]? = some (.cells #[.slice A1 l1.length c1] 25 (0, 0)) := by
    have := blk_new (w.alloc (.cells #[.int .i64 a0] 3 (0, 0))) (.cells #[.slice A1 l1.length c1] 25 (0, 0))
    simpa using this
  have HB1 := Aside0.mk B1
  have HB2 := Aside0.mk B2
  clear B1 B2
  cases t with
  | false =>
    simp only [Bool.false_eq_true, if_false, Option.some.injEq, Prod.mk.injEq] at h'
    obtain ⟨rfl, rfl⟩ := h'
    go_enter Try.func47, Try.ntmps47
    go_wp2_with (go_at_call 18; refine (hA _ (Kd.C_alloc (Kd.C_alloc HR.out _) _)).mono ?_; rintro e w1 ⟨rfl, hb⟩)
    go_ret2
    exact ⟨_, rfl, Kd.R_nil _ _ _ _ _, below_step (below_alloc (below_alloc (Below.refl _ _) _) _) hb⟩
  | true =>
    simp only [if_true] at h'
    obtain ⟨kn, hkn, h2⟩ := Option.bind_eq_some_iff.1 h'
    clear h'
    obtain ⟨x, hx, h''⟩ := Option.bind_eq_some_iff.1 h2
    clear h2
    obtain ⟨hl, hv, rfl⟩ := Go.Proofs.Ytipihdhghbkpfaa.H.idxO_inv hx
    clear hx
    have h3 := Option.some.inj h''
    clear h''
    simp only [Prod.mk.injEq] at h3
    obtain ⟨rfl, rfl⟩ := h3
    have hH := fun W2 hx => impl_after.calls k a0 A1 c1 l1 kn W2 hx hc1 hkn
    clear hkn
    have eg := enters_of Try.func80 (by kernel_rfl) rfl
    have hX := fun A3 c3 hc3 g3 W2 hx hx3 hy hz hz3 => Go.Proofs.Ytipihdhghbkpfaa.H.indices_c l1.length hl _ 80 #[.pointer (some ⟨w.heap.size, 0, none⟩), .pointer (some ⟨w.heap.size + 1, 0, none⟩), .pointer (some ⟨g3, 0, none⟩)] eg W2 (needless_pred k a0 A1 c1 l1 hc1 A3 c3 kn hc3 hv w.heap.size (w.heap.size + 1) g3 W2 hx hx3 hy hz hz3)
    have HX := Aside0.mk hX
    clear hX hv
    go_enter Try.func47, Try.ntmps47
    go_wp2_with (first | (go_at_call 18; refine (hA _ (Kd.C_alloc (Kd.C_alloc HR.out _) _)).mono ?_; rintro e w1 ⟨rfl, hb⟩; have x1 := (blk_cell (blk_below HB1.out hb) 0).trans rfl; have x2 := (blk_cell (blk_below HB2.out hb) 0).trans rfl; have HC1 := Aside0.mk (Kd.C_below (Kd.C_alloc (Kd.C_alloc HR.out (.cells #[.int .i64 a0] 3 (0, 0))) (.cells #[.slice A1 l1.length c1] 25 (0, 0))) hb); have HBB := Aside0.mk hb; clear hb) | (go_at_call 66; refine (hH _ HC1.out).mono ?_; rintro e w2 ⟨v3, rfl, ho, hb3⟩; obtain ⟨A3, c3, rfl⟩ := Kd.R_slice ho; have HO3 := Aside0.mk ho; have HB3 := Aside0.mk hb3; have y1 := (blk_cell (blk_alloc (blk_below (blk_below HB1.out HBB.out) hb3) (.cells #[.slice A3 kn.length c3] 69 (0, 0))) 0).trans rfl; have y2 := (blk_cell (blk_alloc (blk_below (blk_below HB2.out HBB.out) hb3) (.cells #[.slice A3 kn.length c3] 69 (0, 0))) 0).trans rfl; clear ho hb3) | (go_at_call 62; refine (HX.out A3 c3 (Kd.R_reads' HO3.out).2.1 w2.heap.size _ (Kd.C_alloc (Kd.C_below HC1.out HB3.out) _) (Kd.C_alloc (Kd.R_reads' HO3.out).2.2 _) y1 y2 ((blk_cell (blk_new _ _) 0).trans rfl)).mono ?_; rintro e w4 ⟨v4, rfl, ho4, hb4⟩))
    go_ret2
    have b4 := below_alloc (below_step (below_step (below_alloc (below_alloc (Below.refl w.heap.size w) (.cells #[.int .i64 a0] 3 (0, 0))) (.cells #[.slice A1 l1.length c1] 25 (0, 0))) HBB.out) HB3.out) (.cells #[.slice A3 kn.length c3] 69 (0, 0))
    exact ⟨_, rfl, Kd.R_lower ho4 (below_size b4), below_step b4 hb4⟩


end Go.Proofs.Ytipihdhghbkpfaa.PFnExactNeedlessCalls
