-- Written by the session's mkprint.py over the kit's print.py (function texts marked OURS are the session's own).
import Derived.Test.YtchdgmamkafcnaaPFnExactLettersNeededx0
import Derived.Test.YtchdgmamkafcnaaPFnExactLettersNeededx10
import Derived.Test.YtchdgmamkafcnaaHBase
import Derived.Test.YtchdgmamkafcnaaHNeeded
import Derived.Test.YtchdgmamkafcnaaPFnExactLettersNeededx8
namespace Go.Proofs.Ytchdgmamkafcnaa.PFnExactLettersNeeded
open Go.RowKit Go.Proofs.YtchdgmamkafcnaaW.PrintWords Go.Proofs.YtchdgmamkafcnaaW.PrintLast Go.Proofs.YtchdgmamkafcnaaW.PrintMore
attribute [local go_sem] max2_int min2_int max_two min_two max_three min_three max_four min_four   -- for this text's walks alone
set_option linter.unusedVariables false
set_option linter.unusedSimpArgs false

/-! ### impl_LettersNeededLit1: function 74 -/
def impl_LettersNeededLit1.f (k : Nat) (a0 : Int) (a1 : Int) (l2 : List (S59)) : Option (List Int) := if 0 ≤ a0 then (if a0 ≤ (l2.length : Int) then ((impl_byLetters.f k a1 (l2.take (a0 : Int).toNat)).bind fun t171 => (some t171)) else (none)) else (none)
theorem impl_LettersNeededLit1.mono : ∀ a0 a1 a2 k, LeO (impl_LettersNeededLit1.f k a0 a1 a2) (impl_LettersNeededLit1.f (k + 1) a0 a1 a2) := by
  intro a0 a1 a2 k
  unfold impl_LettersNeededLit1.f
  repeat' first
      | (with_reducible exact impl_byLetters.mono _ _ _)
      | (with_reducible exact LeO.refl _)
      | (with_reducible exact LeO.none _)
      | (with_reducible refine LeO.ite ?_ ?_)
      | (with_reducible refine LeO.bind ?_ (fun _ => ?_))
      | exact impl_byLetters.mono _ _ _
      | exact LeO.none _
      | refine LeO.ite ?_ ?_
      | refine LeO.bind ?_ (fun _ => ?_)
set_option maxHeartbeats 8000000 in
set_option maxRecDepth 100000 in
theorem impl_LettersNeededLit1.calls (k : Nat) (a0 : Int) (a1 : Int) (A2 : Option Addr) (c2 : Nat) (l2 : List (S59)) (r : List Int) (w : World) (hr2 : Kd.C k59 w A2 l2.length l2) (hc2 : l2.length ≤ c2) (h : impl_LettersNeededLit1.f k a0 a1 l2 = some r) (g0_ : Nat) (g1_ : Nat) (hg0_ : w.cell? ⟨g0_, 0, none⟩ = some (.int .i64 a1)) (hg1_ : w.cell? ⟨g1_, 0, none⟩ = some (.slice A2 l2.length c2)) :
    Calls Try.prog 74 #[.int .i64 a0, .pointer (some ⟨g0_, 0, none⟩), .pointer (some ⟨g1_, 0, none⟩)] w fun e w' => ∃ v0_ : Value, e = .returned (v0_) ∧ Kd.R (Kd.int .u16) 87 w' w.heap.size (fun _ => True) v0_ r ∧ Below w.heap.size w w' := by
  have HG0_ := Aside0.mk hg0_
  have HG1_ := Aside0.mk hg1_
  have HR2 := Aside0.mk hr2
  have HC2 := Aside0.mk hc2
  clear hr2 hc2
  have HB := Aside0.mk (Below.refl w.heap.size w)
  have H : (if 0 ≤ a0 then (if a0 ≤ (l2.length : Int) then ((impl_byLetters.f k a1 (l2.take (a0 : Int).toNat)).bind fun t171 => (some t171)) else (none)) else (none)) = some r := h
  clear h
  by_cases c4 : 0 ≤ a0
  · rw [if_pos c4] at H
    have c4b0 := eq_true c4
    have c4b1 : decide (0 ≤ a0) = true := decide_eq_true c4
    clear c4
    by_cases c5 : a0 ≤ (l2.length : Int)
    · rw [if_pos c5] at H
      have c5b0 := eq_true c5
      have c5b1 : decide (a0 ≤ (l2.length : Int)) = true := decide_eq_true c5
      clear c5
      obtain ⟨y167, hy167⟩ : ∃ y_ : List (S59), y_ = (l2.take (a0 : Int).toNat) := ⟨_, rfl⟩
      replace H : ((impl_byLetters.f k a1 y167).bind fun t171 => (some t171)) = some r := by first | (rw [hy167]; with_reducible exact H) | (have H2_ := (Option.bind_some _ _).symm.trans H; rw [hy167]; with_reducible exact H2_) | (have H2_ := (Option.bind_some _ _).symm.trans H; with_reducible exact H2_) | with_reducible exact H | (rw [hy167]; exact H) | exact H
      have Ny167 := Aside0.mk hy167
      clear hy167
      replace H := Option.bind_eq_some_iff.mp H
      obtain ⟨t171, A60, H⟩ := H
      replace H : (some t171) = some r := H
      have A6 := Aside0.mk A60
      clear A60
      obtain rfl := Option.some.inj H
      go_enter Try.func74, Try.ntmps74
      try go_wp2
      have n0_ := Aside0.mk (below_drew1 HB.out)
      clear HB
      have HB := n0_
      clear n0_
      have q8 : (a0 : Int) ≤ ((l2.length : Int) : Int) := of_decide_eq_true (by first | (with_reducible assumption) | assumption)
      obtain ⟨i08, hi08, _, hsz8, _⟩ := info_parts info59
      have hroom8 : l2.length ≤ c2 := HC2.out
      have hC8 : Kd.C k59 _ A2 l2.length l2 := HR2.out
      have hcut8 := cut_to (P := Try.prog) 25 59 .i64 Try.underlying25 hi08 A2 l2.length c2 a0 (of_decide_eq_true (by first | (with_reducible assumption) | assumption)) q8 hroom8
      have hr8 := Kd.C_take (m := (a0 : Int).toNat) hC8 (by omega)
      have hy8 : y167.length = (a0 : Int).toNat := (by rw [Ny167.out, List.length_take]; omega)
      rw [← Ny167.out] at hr8
      rw [← hy8] at hcut8
      have HR170 := Aside0.mk hr8
      have HC170 := Aside0.mk (show y167.length ≤ c2 from by omega)
      clear hr8 hC8 hroom8 hi08 hsz8
      have KY8 := Aside0.mk hy8
      clear hy8
      replace q8 := eq_true q8
      refine start_ (n := 6) (S := fun w' => w'.cell? ⟨g0_, 0, none⟩ = some (.int .i64 a1) ∧ w'.cell? ⟨g1_, 0, none⟩ = some (.slice A2 l2.length c2) ∧ True) (ds := []) #[false, false, false, false, false, false] (by kernel_rfl) rfl rfl ⟨Go.Proofs.Ytchdgmamkafcnaa.H.cell_b (by repeat (first | (with_reducible first | exact HB.out | apply below_alloc | apply pw_below_drewN | apply below_drew1) | exact HB.out)) HG0_.out, Go.Proofs.Ytchdgmamkafcnaa.H.cell_b (by repeat (first | (with_reducible first | exact HB.out | apply below_alloc | apply pw_below_drewN | apply below_drew1) | exact HB.out)) HG1_.out, trivial⟩ (fun hHeld => ?_)
      generalize w.drew = w7 at HB HR170 hHeld ⊢
      refine take_ (i := 0) (N := some 5) (v := ?_) (a' := ?_) #[true, false, false, false, false, false] rfl rfl (by kernel_rfl) (fun _ _ _ h => h) (Or.inl ⟨by rfl, ?_⟩) hHeld ?_ ?_
      rotate_left
      · rintro w' ⟨t0_, t1_, _⟩
        go_simp
        with_reducible rfl
      rotate_left
      · simp only [Act.put, List.setIfInBounds_toArray, List.set_cons_zero, List.set_cons_succ, i64_w, i32_w]
        rfl
      refine take_ (i := 1) (N := some 6) (v := ?_) (a' := ?_) #[true, true, false, false, false, false] rfl rfl (by kernel_rfl) (fun _ _ _ h => h) (Or.inl ⟨by rfl, ?_⟩) hHeld ?_ ?_
      rotate_left
      · rintro w' ⟨t0_, t1_, _⟩
        go_simp
        with_reducible rfl
      rotate_left
      · simp only [Act.put, List.setIfInBounds_toArray, List.set_cons_zero, List.set_cons_succ, i64_w, i32_w]
        rfl
      refine pure_ (i := 2) (N := some 7) (v := ?_) (a' := ?_) #[true, true, true, false, false, false] rfl rfl (by kernel_rfl) (fun _ _ _ h => h) (Or.inl ⟨by rfl, ?_⟩) ?_ ?_
      rotate_left
      · intro w'
        go_simp
        with_reducible rfl
      rotate_left
      · simp only [Act.put, List.setIfInBounds_toArray, List.set_cons_zero, List.set_cons_succ, i64_w, i32_w]
        rfl
      refine pure_ (i := 3) (N := some 8) (v := ?_) (a' := ?_) #[true, true, true, true, false, false] rfl rfl (by kernel_rfl) (fun _ _ _ h => h) (Or.inl ⟨by rfl, ?_⟩) ?_ ?_
      rotate_left
      · intro w'
        go_simp
        with_reducible rfl
      rotate_left
      · simp only [Act.put, List.setIfInBounds_toArray, List.set_cons_zero, List.set_cons_succ, i64_w, i32_w]
        rfl
      refine one_ (i := 4) (N := some 9) #[true, true, true, true, true, false] rfl rfl (by kernel_rfl) (by decide) (fun K hK => ?_)
      refine goes_ Try.func67 (by kernel_rfl) rfl #[.int .i64 a1, .slice A2 y167.length c2] (by rfl) rfl rfl (by (try simp only [List.map_toArray, List.map_cons, List.map_nil]); first | done | rfl | (simp only [List.length_drop, List.length_take]; rfl)) ?_
      with_reducible refine (impl_byLetters.calls k a1 _ _ y167 t171 _ ?side1 ?side2 A6.out).mono ?_
      (case side1 => repeat (first | exact (Kd.C_below HR170.out HB.out) | (with_reducible refine Kd.C_alloc ?_ _) | (with_reducible refine Kd.C_drewN ?_ _) | (with_reducible refine Kd.C_drew ?_)))
      (case side2 => exact HC170.out)
      rintro e w9 ⟨v172, rfl, ho0, hb⟩
      refine ⟨_, rfl, ?_⟩
      have n0_ := Aside0.mk (Kd.R_lower ho0 (below_size (by repeat (first | (with_reducible first | exact HB.out | apply below_alloc | apply pw_below_drewN | apply below_drew1) | exact HB.out))))
      have n1_ := Aside0.mk (below_step (by repeat (first | (with_reducible first | exact HB.out | apply below_alloc | apply pw_below_drewN | apply below_drew1) | exact HB.out)) hb)
      clear HB
      have HO173 := n0_
      have HB := n1_
      clear n0_ n1_
      (try clear hb)
      (try clear hb2)
      (try clear hk)
      (try clear hi)
      (try clear ho0)
      refine hK.out _ _ ⟨Go.Proofs.Ytchdgmamkafcnaa.H.cell_b (by repeat (first | (with_reducible first | exact HB.out | apply below_alloc | apply pw_below_drewN | apply below_drew1) | exact HB.out)) HG0_.out, Go.Proofs.Ytchdgmamkafcnaa.H.cell_b (by repeat (first | (with_reducible first | exact HB.out | apply below_alloc | apply pw_below_drewN | apply below_drew1) | exact HB.out)) HG1_.out, trivial⟩ (fun hHeld => ?_)
      clear hK K
      refine norm_ (a' := ?_) ?_ ?_
      rotate_left
      · show Act.put _ (some 9) _ = _
        simp only [Act.put, List.setIfInBounds_toArray, List.set_cons_zero, List.set_cons_succ, i64_w, i32_w]
        rfl
      refine pure_ (i := 5) (N := some 4) (v := ?_) (a' := ?_) #[true, true, true, true, true, true] rfl rfl (by kernel_rfl) (fun _ _ _ h => h) (Or.inl ⟨by rfl, ?_⟩) ?_ ?_
      rotate_left
      · intro w'
        go_simp
        with_reducible rfl
      rotate_left
      · simp only [Act.put, List.setIfInBounds_toArray, List.set_cons_zero, List.set_cons_succ, i64_w, i32_w]
        rfl
      refine done_ (by kernel_rfl) ?_
      try go_wp2
      go_ret
      exact ⟨_, by first | rfl | (simp [errW_none, errW_some] <;> rfl) | (simp [*, errW_none, errW_some] <;> rfl), by (with_reducible repeat (first | apply Kd.R_alloc | apply Kd.R_drewN | apply Kd.R_drew)); exact HO173.out, by repeat (first | (with_reducible first | exact HB.out | apply below_alloc | apply pw_below_drewN | apply below_drew1) | exact HB.out)⟩
    · rw [if_neg c5] at H
      exact absurd H (by simp)
  · rw [if_neg c4] at H
    exact absurd H (by simp)

/-! ### impl_LettersNeeded: OURS: function 35 -/
def impl_LettersNeeded.g (k : Nat) (n : Int) (l : List S59) (i : Nat) : Option Bool := (impl_LettersNeededLit1.f k (i : Int) n l).bind fun v => impl_news_allKnow.f k v
def impl_LettersNeeded.f (k : Nat) (a0 : Int) (l1 : List S59) : Option (Int × Bool) := (impl_AreLetters.f a0 l1).bind fun t => if t = true then Go.Proofs.Ytchdgmamkafcnaa.H.neededO (impl_LettersNeeded.g k a0 l1) l1.length else some (0, false)
theorem impl_LettersNeeded.mono : ∀ a0 a1 k, LeO (impl_LettersNeeded.f k a0 a1) (impl_LettersNeeded.f (k + 1) a0 a1) := fun a0 a1 k => LeO.bind (LeO.refl _) (fun _ => LeO.ite (Go.Proofs.Ytchdgmamkafcnaa.H.neededO_mono (fun i => LeO.bind (impl_LettersNeededLit1.mono _ _ _ _) (fun _ => impl_news_allKnow.mono _ _))) (LeO.refl _))
theorem needed_known (kq : Nat) (n : Int) (A : Option Addr) (cp : Nat) (l : List S59) (hcp : l.length ≤ cp) (hv : ∀ i, i < l.length + 1 → ∃ b, impl_LettersNeeded.g kq n l i = some b) (g1 g2 : Nat) (w : World) (hC : Kd.C k59 w A l.length l) (hg1 : w.heap[g1]? = some (.cells #[.int .i64 n] 3 (0, 0))) (hg2 : w.heap[g2]? = some (.cells #[.slice A l.length cp] 25 (0, 0))) :
    Go.Proofs.Ytchdgmamkafcnaa.H.KnownIdx 74 #[.pointer (some ⟨g1, 0, none⟩), .pointer (some ⟨g2, 0, none⟩)] l.length (fun i => impl_LettersNeeded.g kq n l i == some true) w := by
  intro W k hb hk
  have h1 : W.cell? ⟨g1, 0, none⟩ = some (.int .i64 n) := Go.Proofs.Ytchdgmamkafcnaa.H.cell_b hb ((blk_cell hg1 0).trans rfl)
  have h2 : W.cell? ⟨g2, 0, none⟩ = some (.slice A l.length cp) := Go.Proofs.Ytchdgmamkafcnaa.H.cell_b hb ((blk_cell hg2 0).trans rfl)
  obtain ⟨b, hbb⟩ := hv k (by omega)
  have e : (impl_LettersNeeded.g kq n l k == some true) = b := by rw [hbb]; cases b <;> rfl
  obtain ⟨v, hv1, hv2⟩ := Option.bind_eq_some_iff.1 hbb
  have hc := impl_LettersNeededLit1.calls kq (k : Int) n A cp l v W (Kd.C_below hC hb) hcp hv1 g1 g2 h1 h2
  show Calls _ _ #[.int .i64 (k : Int), .pointer (some ⟨g1, 0, none⟩), .pointer (some ⟨g2, 0, none⟩)] W fun e w' => ∃ v, e = .returned v ∧ Below W.heap.size W w' ∧ Calls Try.prog 68 #[v] w' fun e' w'' => e' = .returned (.bool (impl_LettersNeeded.g kq n l k == some true)) ∧ Below w'.heap.size w' w''
  rw [e]
  refine hc.mono ?_
  rintro e w1 ⟨v0, rfl, ho, hb1⟩
  refine ⟨v0, rfl, hb1, ?_⟩
  obtain ⟨Ao, co, rfl⟩ := Kd.R_slice ho
  refine (impl_news_allKnow.calls kq Ao co v b w1 (Kd.R_reads' ho).2.2 (Kd.R_reads' ho).2.1 hv2).mono ?_
  rintro e w2 ⟨rfl, ⟨nd, rfl⟩⟩
  exact ⟨rfl, pw_below_drewN (Below.refl _ _) _⟩
set_option maxHeartbeats 1000000 in
set_option maxRecDepth 100000 in
theorem impl_LettersNeeded.calls (k : Nat) (a0 : Int) (A1 : Option Addr) (c1 : Nat) (l1 : List S59) (r1 : Int) (r2 : Bool) (w : World) (hr1 : Kd.C k59 w A1 l1.length l1) (hc1 : l1.length ≤ c1) (h : impl_LettersNeeded.f k a0 l1 = some (r1, r2)) :
    Calls Try.prog 35 #[.int .i64 a0, .slice A1 l1.length c1] w fun e w' => e = .returned (.tuple #[.int .i64 r1, .bool r2]) ∧ Below w.heap.size w w' := by
  obtain ⟨t, ht, h'⟩ := Option.bind_eq_some_iff.1 h
  clear h
  have HR := Aside0.mk hr1
  have hA := fun W2 hx => impl_AreLetters.calls a0 A1 c1 l1 t W2 hx hc1 ht
  clear hr1 ht
  have B1 : ((w.alloc (.cells #[.int .i64 a0] 3 (0, 0))).alloc (.cells #[.slice A1 l1.length c1] 25 (0, 0))).heap[w.heap.size]? = some (.cells #[.int .i64 a0] 3 (0, 0)) := blk_alloc (blk_new _ _) _
  have B2 : ((w.alloc (.cells #[.int .i64 a0] 3 (0, 0))).alloc (.cells #[.slice A1 l1.length c1] 25 (0, 0))).heap[w.heap.size + 1]? = some (.cells #[.slice A1 l1.length c1] 25 (0, 0)) := by
    have := blk_new (w.alloc (.cells #[.int .i64 a0] 3 (0, 0))) (.cells #[.slice A1 l1.length c1] 25 (0, 0))
    simpa using this
  have HB1 := Aside0.mk B1
  have HB2 := Aside0.mk B2
  clear B1 B2
  cases t with
  | false =>
    simp only [Bool.false_eq_true, if_false, Option.some.injEq, Prod.mk.injEq] at h'
    obtain ⟨rfl, rfl⟩ := h'
    go_enter Try.func35, Try.ntmps35
    go_wp2_with (go_at_call 18; refine (hA _ (Kd.C_alloc (Kd.C_alloc HR.out _) _)).mono ?_; rintro e w1 ⟨rfl, hb⟩)
    go_ret2
    exact ⟨rfl, below_step (below_alloc (below_alloc (Below.refl _ _) _) _) hb⟩
  | true =>
    simp only [if_true] at h'
    obtain ⟨hl, hv, hx⟩ := Go.Proofs.Ytchdgmamkafcnaa.H.neededO_inv h'
    clear h'
    have eg := enters_of Try.func74 (by kernel_rfl) rfl
    have hX := fun W2 hx hy hz => Go.Proofs.Ytchdgmamkafcnaa.H.needed_c l1.length hl _ 74 #[.pointer (some ⟨w.heap.size, 0, none⟩), .pointer (some ⟨w.heap.size + 1, 0, none⟩)] eg W2 (needed_known k a0 A1 c1 l1 hc1 hv w.heap.size (w.heap.size + 1) W2 hx hy hz)
    rw [← hx] at hX
    clear hx
    have HX := Aside0.mk hX
    clear hX hv
    go_enter Try.func35, Try.ntmps35
    go_wp2_with (first | (go_at_call 18; refine (hA _ (Kd.C_alloc (Kd.C_alloc HR.out _) _)).mono ?_; rintro e w1 ⟨rfl, hb⟩; have x1 := (blk_cell (blk_below HB1.out hb) 0).trans rfl; have x2 := (blk_cell (blk_below HB2.out hb) 0).trans rfl; have HC1 := Aside0.mk (Kd.C_below (Kd.C_alloc (Kd.C_alloc HR.out (.cells #[.int .i64 a0] 3 (0, 0))) (.cells #[.slice A1 l1.length c1] 25 (0, 0))) hb); have HBB := Aside0.mk hb; clear hb) | (go_at_call 73; refine (HX.out _ HC1.out (blk_below HB1.out HBB.out) (blk_below HB2.out HBB.out)).mono ?_; rintro e w3 ⟨rfl, hb3⟩))
    go_ret2
    exact ⟨rfl, below_step (below_step (below_alloc (below_alloc (Below.refl _ _) _) _) HBB.out) hb3⟩


end Go.Proofs.Ytchdgmamkafcnaa.PFnExactLettersNeeded
