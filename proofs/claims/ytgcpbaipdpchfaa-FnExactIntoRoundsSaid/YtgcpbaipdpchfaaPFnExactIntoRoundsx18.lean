-- Written by the session's mkprint.py over the kit's print.py (function texts marked OURS are the session's own).
import Derived.Test.YtgcpbaipdpchfaaPFnExactIntoRoundsx0
import Derived.Test.YtgcpbaipdpchfaaHBase
import Derived.Test.YtgcpbaipdpchfaaHCloneS
import Derived.Test.YtgcpbaipdpchfaaHRowOf
import Derived.Test.YtgcpbaipdpchfaaPFnExactIntoRoundsx10
import Derived.Test.YtgcpbaipdpchfaaPFnExactIntoRoundsx11
import Derived.Test.YtgcpbaipdpchfaaPFnExactIntoRoundsx17
import Derived.Test.YtgcpbaipdpchfaaPFnExactIntoRoundsx2
import Derived.Test.YtgcpbaipdpchfaaPFnExactIntoRoundsx3
import Derived.Test.YtgcpbaipdpchfaaPFnExactIntoRoundsx4
import Derived.Test.YtgcpbaipdpchfaaPFnExactIntoRoundsx6
import Derived.Test.YtgcpbaipdpchfaaWApart
import Derived.Test.YtgcpbaipdpchfaaWKept
import Derived.Test.YtgcpbaipdpchfaaWMore
import Derived.Test.YtgcpbaipdpchfaaWN
import Derived.Test.YtgcpbaipdpchfaaWShare
namespace Go.Proofs.Ytgcpbaipdpchfaa.PFnExactIntoRounds
open Go.RowKit Go.Proofs.YtgcpbaipdpchfaaW.PrintWords Go.Proofs.YtgcpbaipdpchfaaW.PrintLast Go.Proofs.YtgcpbaipdpchfaaW.PrintMore
attribute [local go_sem] max2_int min2_int max_two min_two max_three min_three max_four min_four   -- for this text's walks alone
set_option linter.unusedVariables false
set_option linter.unusedSimpArgs false

/-! ### impl_IntoRounds: OURS: function 18 -/
def impl_IntoRounds.put (out : List (List S54)) (free : List Int) (c : S54) (m : Int) : Option (List (List S54) × List Int) :=
  if 0 ≤ m ∧ m < (out.length : Int) ∧ (out.getD m.toNat []).length < 1048576 then some (out.set m.toNat (out.getD m.toNat [] ++ [c]), (free.set c.f0.toNat (wrap64 (m + 1))).set c.f1.toNat (wrap64 (m + 1))) else none
def impl_IntoRounds.step (out : List (List S54)) (free : List Int) (c : S54) : Option (List (List S54) × List Int) :=
  if 0 ≤ c.f0 ∧ c.f0 < (free.length : Int) ∧ 0 ≤ c.f1 ∧ c.f1 < (free.length : Int) then
    if mx (rd free c.f0) (rd free c.f1) = (out.length : Int) then (if out.length < 1048576 then impl_IntoRounds.put (out ++ [[]]) free c (mx (rd free c.f0) (rd free c.f1)) else none)
    else impl_IntoRounds.put out free c (mx (rd free c.f0) (rd free c.f1))
  else none
def impl_IntoRounds.loop : List S54 → List (List S54) → List Int → Option (List (List S54))
  | [], out, _ => some out
  | c :: cs, out, free => (impl_IntoRounds.step out free c).bind fun p => impl_IntoRounds.loop cs p.1 p.2
def impl_IntoRounds.sorts : List (List S54) → Option (List (List S54))
  | [] => some []
  | r :: rs => (impl_Call_43.f r).bind fun s => (impl_IntoRounds.sorts rs).bind fun ss => some (s :: ss)
def impl_IntoRounds.f (_k : Nat) (a0 : Int) (l1 : List S54) : Option (List (List S54) × Bool) := (impl_AreCalls.f a0 l1).bind fun t => if t = true then (if 0 ≤ a0 then (if a0.toNat ≤ 1048576 then ((impl_IntoRounds.loop l1 [] (List.replicate a0.toNat 0)).bind fun out => if 20 < out.length then some ([], false) else (impl_IntoRounds.sorts out).bind fun o => some (o, true)) else none) else none) else some ([], false)
theorem impl_IntoRounds.mono : ∀ a0 a1 k, LeO (impl_IntoRounds.f k a0 a1) (impl_IntoRounds.f (k + 1) a0 a1) := fun _ _ _ => LeO.refl _
def impl_IntoRounds.T7 : Bool × List (List Nat × List Nat) := (true, [([], []), ([], []), ([1], [1]), ([0, 2], [0, 2]), ([3], [3]), ([], []), ([], []), ([6], [6]), ([5, 7], [5, 7]), ([8], [8]), ([4, 9], [4, 9]), ([10, 0, 1, 2, 3, 4, 5, 6, 7, 8, 9, 10], [10])])
def impl_IntoRounds.B7 : List Nat := [0, 0, 2, 7, 15, 0, 0, 64, 224, 480, 1023, 2047]
theorem impl_IntoRounds.tab7 : rtab .any (opsOf Try.f18 7) = impl_IntoRounds.T7 := by kernel_rfl
theorem impl_IntoRounds.bits7 : waitsOk impl_IntoRounds.T7.2 impl_IntoRounds.B7 = true := by kernel_rfl
def impl_IntoRounds.T10 : Bool × List (List Nat × List Nat) := (true, [([], []), ([], []), ([], []), ([], []), ([2, 3], [2, 3]), ([4], [4]), ([], []), ([6], [6]), ([5, 7], [5, 7]), ([0, 1, 0, 1, 2, 3, 4, 5, 6, 7, 8], [0, 1]), ([9, 8, 8, 0, 1, 2, 3, 4, 5, 6, 7, 8], [8, 9])])
def impl_IntoRounds.B10 : List Nat := [0, 0, 0, 0, 12, 28, 0, 64, 252, 511, 1023]
theorem impl_IntoRounds.tab10 : rtab .any (opsOf Try.f18 10) = impl_IntoRounds.T10 := by kernel_rfl
theorem impl_IntoRounds.bits10 : waitsOk impl_IntoRounds.T10.2 impl_IntoRounds.B10 = true := by kernel_rfl
def impl_IntoRounds.T11 : Bool × List (List Nat × List Nat) := (true, [([], []), ([], []), ([1], [1]), ([], []), ([], []), ([4], [4]), ([], []), ([6], [6]), ([], []), ([8], [8]), ([0, 2, 0, 1, 2, 6, 7], [0, 2]), ([10, 7, 0, 1, 2, 6, 7], [7, 10]), ([3, 5, 0, 1, 2, 3, 4, 5, 6, 7, 8, 9, 10, 11], [3, 5]), ([12, 9, 11, 0, 1, 2, 3, 4, 5, 6, 7, 8, 9, 10, 11], [9, 12])])
def impl_IntoRounds.B11 : List Nat := [0, 0, 2, 0, 0, 16, 0, 64, 0, 256, 199, 1223, 4095, 8191]
theorem impl_IntoRounds.tab11 : rtab .any (opsOf Try.f18 11) = impl_IntoRounds.T11 := by kernel_rfl
theorem impl_IntoRounds.bits11 : waitsOk impl_IntoRounds.T11.2 impl_IntoRounds.B11 = true := by kernel_rfl
set_option maxHeartbeats 16000000 in
set_option maxRecDepth 100000 in
theorem impl_IntoRounds.calls (k : Nat) (a0 : Int) (A1 : Option Addr) (c1 : Nat) (l1 : List (S54)) (r1 : List (List (S54))) (r2 : Bool) (w : World) (hr1 : Kd.C k54 w A1 l1.length l1) (hc1 : l1.length ≤ c1) (h : impl_IntoRounds.f k a0 l1 = some (r1, r2)) :
    Calls Try.prog 18 #[.int .i64 a0, .slice A1 l1.length c1] w fun e w' => ∃ v0_ : Value, e = .returned (.tuple #[v0_, .bool r2]) ∧ Kd.S (Kd.slice 54 k54) 31 w' w.heap.size (fun _ => True) v0_ r1 ∧ Below w.heap.size w w' := by
  obtain ⟨t, ht, h'⟩ := Option.bind_eq_some_iff.1 h
  clear h
  have hu54 := Try.underlying54
  have HR1 := Aside0.mk hr1
  have HC1 := Aside0.mk hc1
  have A3 := Aside0.mk ht
  clear hr1 hc1 ht
  have HB := Aside0.mk (Below.refl w.heap.size w)
  cases t with
  | false =>
    simp only [Bool.false_eq_true, if_false, Option.some.injEq, Prod.mk.injEq] at h'
    obtain ⟨rfl, rfl⟩ := h'
    go_enter Try.func18, Try.ntmps18
    go_wp2_with (first | ((with_reducible refine gate_callee (f := 48) rfl ?_); refine goesL_ (some 15) rfl rfl Try.func48 (by kernel_rfl) rfl #[.int .i64 a0, .slice A1 l1.length c1] rfl (by (try simp only [List.map_toArray, List.map_cons, List.map_nil]); first | done | rfl | (simp only [List.length_drop, List.length_take]; rfl)) ?_; (with_reducible refine (impl_AreCalls.calls a0 _ _ l1 false _ ?side1 ?side2 A3.out).mono ?_); (case side1 => repeat (first | exact HR1.out | (with_reducible refine Kd.C_alloc ?_ _) | (with_reducible refine Kd.C_drewN ?_ _) | (with_reducible refine Kd.C_drew ?_))); (case side2 => exact HC1.out); rintro e w7 ⟨rfl, hb⟩; refine ⟨_, rfl, ?_⟩; have n0_ := Aside0.mk (below_step (by repeat (first | (with_reducible first | exact HB.out | apply below_alloc | apply pw_below_drewN | apply below_drew1) | exact HB.out)) hb); clear HB; have HB := n0_; clear n0_; (try clear hb); (try clear hb2); (try clear hk); (try clear hi)))
    go_ret2
    exact ⟨_, rfl, Kd.S_nil _ _ _ _ _, HB.out⟩
  | true =>
    simp only [if_true] at h'
    by_cases c5 : 0 ≤ a0
    case neg => rw [if_neg c5] at h'; cases h'
    rw [if_pos c5] at h'
    by_cases c6 : a0.toNat ≤ 1048576
    case neg => rw [if_neg c6] at h'; cases h'
    rw [if_pos c6] at h'
    obtain ⟨fin, hfin, h2⟩ := Option.bind_eq_some_iff.1 h'
    have HL0 := Aside0.mk hfin
    have HFin := Aside0.mk h2
    clear h' hfin h2
    have c5b0 := eq_true c5
    have c5b1 : decide (0 ≤ a0) = true := decide_eq_true c5
    have c6b1 : decide ((a0 : Int).toNat ≤ 35184372088832) = true := decide_eq_true (by omega)
    clear c5 c6
    obtain ⟨y233, hy233⟩ : ∃ y_ : List (List (S54)), y_ = (([] : List (List (S54)))) := ⟨_, rfl⟩
    have Ny233 := Aside0.mk hy233
    clear hy233
    obtain ⟨y236, hy236⟩ : ∃ y_ : List Int, y_ = (List.replicate (a0 : Int).toNat 0) := ⟨_, rfl⟩
    have Ny236 := Aside0.mk hy236
    clear hy236
    go_enter Try.func18, Try.ntmps18
    go_wp2_with (first | ((with_reducible refine gate_callee (f := 48) rfl ?_); refine goesL_ (some 15) rfl rfl Try.func48 (by kernel_rfl) rfl #[.int .i64 a0, .slice A1 l1.length c1] rfl (by (try simp only [List.map_toArray, List.map_cons, List.map_nil]); first | done | rfl | (simp only [List.length_drop, List.length_take]; rfl)) ?_; (with_reducible refine (impl_AreCalls.calls a0 _ _ l1 true _ ?side1 ?side2 A3.out).mono ?_); (case side1 => repeat (first | exact HR1.out | (with_reducible refine Kd.C_alloc ?_ _) | (with_reducible refine Kd.C_drewN ?_ _) | (with_reducible refine Kd.C_drew ?_))); (case side2 => exact HC1.out); rintro e w7 ⟨rfl, hb⟩; refine ⟨_, rfl, ?_⟩; have n0_ := Aside0.mk (below_step (by repeat (first | (with_reducible first | exact HB.out | apply below_alloc | apply pw_below_drewN | apply below_drew1) | exact HB.out)) hb); clear HB; have HB := n0_; clear n0_; (try clear hb); (try clear hb2); (try clear hk); (try clear hi)))
    have n0_ := Aside0.mk (below_drew1 HB.out)
    clear HB
    have HB := n0_
    clear n0_
    refine start_ (n := 5) (S := fun w' => True) (ds := []) #[false, false, false, false, false] (by kernel_rfl) rfl rfl trivial (fun hHeld => ?_)
    generalize w7.drew = w8 at HB hHeld ⊢
    refine pure_ (i := 1) (N := some 18) (v := ?_) (a' := ?_) #[false, true, false, false, false] rfl rfl (by kernel_rfl) (fun _ _ _ h => h) (Or.inl ⟨by rfl, ?_⟩) ?_ ?_
    (rotate_left; intro w'; go_simp; with_reducible rfl; rotate_left; simp only [Act.put, List.setIfInBounds_toArray, List.set_cons_zero, List.set_cons_succ, i64_w, i32_w]; rfl)
    refine join_ (σ := Value × Value) 1 #[true, true, true, true, false] (fun s_ => [(17, s_.1), (19, s_.2), (6, s_.1)]) (fun s_ w' => (Kd.S (Kd.slice 54 k54) 31 w' w.heap.size (fun k_ => (w.heap.size ≤ k_) ∧ some k_ ≠ (s_.2 : Value).ownBlock) s_.1 y233) ∧ (Kd.R (Kd.int .i64) 3 w' w.heap.size (fun k_ => (w.heap.size ≤ k_)) s_.2 y236) ∧ (Below w.heap.size w w')) ?_ ?_
    rotate_left
    ·intro hCont
     refine two_ (i := 0) (j := 2) (Ni := some 17) (Nj := some 19) #[true, true, false, false, false] #[false, true, true, false, false] rfl rfl rfl rfl (by kernel_rfl) (by decide) (by decide) (fun K hK => ?_) (fun K hK => ?_)
     ·skip
      refine Kd.S_lit_step (Kd.slice 54 k54) _ 31 ?hg (N := 17) ?hd (xs := ([] : List (List (S54)))) (inner := []) (ok := (fun k_ => (w.heap.size ≤ k_))) (okp := (fun k_ => (w.heap.size ≤ k_))) ?hr ?hp (fun _ hk => hk) ((show ∀ k_, w8.heap.size ≤ k_ → (fun k_ => (w.heap.size ≤ k_)) k_ from fun k_ hk => (Nat.le_trans (below_size (by repeat (first | (with_reducible first | exact HB.out | apply below_alloc | apply pw_below_drewN | apply below_drew1) | exact HB.out))) hk)) _ (Nat.le_refl _)) (Below.refl _ _) (Nat.le_refl _) (by simp) ?_; (case hd => rfl); (case hg => rfl); (case hr => first | (go_simp; done) | (go_simp; rfl)); (case hp => exact (Reps.none _ _))
      intro v234 w9 ho10 hb hg_ hnew_
      clear hg_ hnew_
      (first | rw [← Ny233.out] at ho10 | (simp only [Int.reduceToNat] at ho10; rw [← Ny233.out] at ho10))
      have n0_ := Aside0.mk (Kd.S_lower ho10 (below_size (by repeat (first | (with_reducible first | exact HB.out | apply below_alloc | apply pw_below_drewN | apply below_drew1) | exact HB.out))))
      have n1_ := Aside0.mk (below_step (by repeat (first | (with_reducible first | exact HB.out | apply below_alloc | apply pw_below_drewN | apply below_drew1) | exact HB.out)) hb)
      clear HB
      have HO235 := n0_
      have HB := n1_
      clear n0_ n1_
      clear hb ho10
      refine hK.out _ _ trivial (fun hHeld => ?_)
      clear hK K
      refine norm_ (a' := ?_) ?_ ?_
      rotate_left
      ·show Act.put _ (some 17) _ = _
       simp only [Act.put, List.setIfInBounds_toArray, List.set_cons_zero, List.set_cons_succ, i64_w, i32_w]
       rfl
      refine pure_ (i := 3) (N := some 6) (v := ?_) (a' := ?_) #[true, true, false, true, false] rfl rfl (by kernel_rfl) (fun _ _ _ h => h) (Or.inl ⟨by rfl, ?_⟩) ?_ ?_
      (rotate_left; intro w'; go_simp; with_reducible rfl; rotate_left; simp only [Act.put, List.setIfInBounds_toArray, List.set_cons_zero, List.set_cons_succ, i64_w, i32_w]; rfl)
      refine one_ (i := 2) (N := some 19) #[true, true, true, true, false] rfl rfl (by kernel_rfl) (by decide) (fun K hK => ?_)
      refine Kd.R_make_step (Kd.int .i64) _ 3 (by rfl) (N := 19) rfl 60 _ _ rfl a0 rfl rfl Try.underlying60 (.int .i64 0) 8 info3 rfl (by decide) (by omega) 0 (ok := fun _ => True) (okp := fun _ => True) rfl (fun _ hk => hk) trivial (of_decide_eq_true (by first | (with_reducible assumption) | assumption)) (Nat.le_trans (Nat.mul_le_mul_right _ (of_decide_eq_true (by first | (with_reducible assumption) | assumption) : a0.toNat ≤ 35184372088832)) (by omega)) (Below.refl _ _) (Nat.le_refl _) ?_
      intro v237 w11 ho12 hb hg_ hnew_
      clear hg_ hnew_
      (first | rw [← Ny236.out] at ho12 | (simp only [Int.reduceToNat] at ho12; rw [← Ny236.out] at ho12))
      have n0_ := Aside0.mk (Kd.S_elder' (by (with_reducible repeat (first | apply Kd.S_alloc | apply Kd.S_drewN | apply Kd.S_drew)); exact HO235.out) (Kd.R_base ho12) hb)
      have n1_ := Aside0.mk (Kd.R_lower (Kd.R_newM (M := fun k_ => (w.heap.size ≤ k_)) ho12 (below_size (by repeat (first | (with_reducible first | exact HB.out | apply below_alloc | apply pw_below_drewN | apply below_drew1) | exact HB.out))) (fun k_ h_ => h_)) (below_size (by repeat (first | (with_reducible first | exact HB.out | apply below_alloc | apply pw_below_drewN | apply below_drew1) | exact HB.out))))
      have n2_ := Aside0.mk (below_step (by repeat (first | (with_reducible first | exact HB.out | apply below_alloc | apply pw_below_drewN | apply below_drew1) | exact HB.out)) hb)
      clear HO235
      clear HB
      have HO235 := n0_
      have HO238 := n1_
      have HB := n2_
      clear n0_ n1_ n2_
      clear hb ho12
      refine hK.out _ _ trivial (fun hHeld => ?_)
      clear hK K
      refine norm_ (a' := ?_) ?_ ?_
      rotate_left
      ·show Act.put _ (some 19) _ = _
       simp only [Act.put, List.setIfInBounds_toArray, List.set_cons_zero, List.set_cons_succ, i64_w, i32_w]
       rfl
      exact norm_ (by simp only [putAll, Act.put, List.setIfInBounds_toArray, List.set_cons_zero, List.set_cons_succ]) (hCont (v234, v237) _ ⟨(by (with_reducible repeat (first | apply Kd.S_alloc | apply Kd.S_drewN | apply Kd.S_drew)); exact HO235.out), (by (with_reducible repeat (first | apply Kd.R_alloc | apply Kd.R_drewN | apply Kd.R_drew)); exact Kd.R_mono HO238.out (fun _ hk => hk.1)), (by repeat (first | (with_reducible first | exact HB.out | apply below_alloc | apply pw_below_drewN | apply below_drew1) | exact HB.out))⟩)
     ·skip
      refine Kd.R_make_step (Kd.int .i64) _ 3 (by rfl) (N := 19) rfl 60 _ _ rfl a0 rfl rfl Try.underlying60 (.int .i64 0) 8 info3 rfl (by decide) (by omega) 0 (ok := fun _ => True) (okp := fun _ => True) rfl (fun _ hk => hk) trivial (of_decide_eq_true (by first | (with_reducible assumption) | assumption)) (Nat.le_trans (Nat.mul_le_mul_right _ (of_decide_eq_true (by first | (with_reducible assumption) | assumption) : a0.toNat ≤ 35184372088832)) (by omega)) (Below.refl _ _) (Nat.le_refl _) ?_
      intro v237 w9 ho10 hb hg_ hnew_
      clear hg_ hnew_
      (first | rw [← Ny236.out] at ho10 | (simp only [Int.reduceToNat] at ho10; rw [← Ny236.out] at ho10))
      have n0_ := Aside0.mk (Kd.R_lower (Kd.R_newM (M := fun k_ => (w.heap.size ≤ k_)) ho10 (below_size (by repeat (first | (with_reducible first | exact HB.out | apply below_alloc | apply pw_below_drewN | apply below_drew1) | exact HB.out))) (fun k_ h_ => h_)) (below_size (by repeat (first | (with_reducible first | exact HB.out | apply below_alloc | apply pw_below_drewN | apply below_drew1) | exact HB.out))))
      have n1_ := Aside0.mk (below_step (by repeat (first | (with_reducible first | exact HB.out | apply below_alloc | apply pw_below_drewN | apply below_drew1) | exact HB.out)) hb)
      clear HB
      have HO238 := n0_
      have HB := n1_
      clear n0_ n1_
      clear hb ho10
      refine hK.out _ _ trivial (fun hHeld => ?_)
      clear hK K
      refine norm_ (a' := ?_) ?_ ?_
      rotate_left
      ·show Act.put _ (some 19) _ = _
       simp only [Act.put, List.setIfInBounds_toArray, List.set_cons_zero, List.set_cons_succ, i64_w, i32_w]
       rfl
      refine one_ (i := 0) (N := some 17) #[true, true, true, false, false] rfl rfl (by kernel_rfl) (by decide) (fun K hK => ?_)
      refine Kd.S_lit_step (Kd.slice 54 k54) _ 31 ?hg (N := 17) ?hd (xs := ([] : List (List (S54)))) (inner := []) (ok := (fun k_ => (w.heap.size ≤ k_) ∧ some k_ ≠ (v237 : Value).ownBlock)) (okp := (fun k_ => (w.heap.size ≤ k_) ∧ some k_ ≠ (v237 : Value).ownBlock)) ?hr ?hp (fun _ hk => hk) ((show ∀ k_, w9.heap.size ≤ k_ → (fun k_ => (w.heap.size ≤ k_) ∧ some k_ ≠ (v237 : Value).ownBlock) k_ from fun k_ hk => ⟨(Nat.le_trans (below_size (by repeat (first | (with_reducible first | exact HB.out | apply below_alloc | apply pw_below_drewN | apply below_drew1) | exact HB.out))) hk), Kd.fresh' (Kd.R_lt (by (with_reducible repeat (first | apply Kd.R_alloc | apply Kd.R_drewN | apply Kd.R_drew)); exact HO238.out)) k_ hk⟩) _ (Nat.le_refl _)) (Below.refl _ _) (Nat.le_refl _) (by simp) ?_; (case hd => rfl); (case hg => rfl); (case hr => first | (go_simp; done) | (go_simp; rfl)); (case hp => exact (Reps.none _ _))
      intro v234 w11 ho12 hb hg_ hnew_
      clear hg_ hnew_
      (first | rw [← Ny233.out] at ho12 | (simp only [Int.reduceToNat] at ho12; rw [← Ny233.out] at ho12))
      have n0_ := Aside0.mk (Kd.R_below (by (with_reducible repeat (first | apply Kd.R_alloc | apply Kd.R_drewN | apply Kd.R_drew)); exact HO238.out) hb)
      have n1_ := Aside0.mk (Kd.S_lower ho12 (below_size (by repeat (first | (with_reducible first | exact HB.out | apply below_alloc | apply pw_below_drewN | apply below_drew1) | exact HB.out))))
      have n2_ := Aside0.mk (below_step (by repeat (first | (with_reducible first | exact HB.out | apply below_alloc | apply pw_below_drewN | apply below_drew1) | exact HB.out)) hb)
      clear HO238
      clear HB
      have HO238 := n0_
      have HO235 := n1_
      have HB := n2_
      clear n0_ n1_ n2_
      clear hb ho12
      refine hK.out _ _ trivial (fun hHeld => ?_)
      clear hK K
      refine norm_ (a' := ?_) ?_ ?_
      rotate_left
      ·show Act.put _ (some 17) _ = _
       simp only [Act.put, List.setIfInBounds_toArray, List.set_cons_zero, List.set_cons_succ, i64_w, i32_w]
       rfl
      refine pure_ (i := 3) (N := some 6) (v := ?_) (a' := ?_) #[true, true, true, true, false] rfl rfl (by kernel_rfl) (fun _ _ _ h => h) (Or.inl ⟨by rfl, ?_⟩) ?_ ?_
      (rotate_left; intro w'; go_simp; with_reducible rfl; rotate_left; simp only [Act.put, List.setIfInBounds_toArray, List.set_cons_zero, List.set_cons_succ, i64_w, i32_w]; rfl)
      exact norm_ (by simp only [putAll, Act.put, List.setIfInBounds_toArray, List.set_cons_zero, List.set_cons_succ]) (hCont (v234, v237) _ ⟨(by (with_reducible repeat (first | apply Kd.S_alloc | apply Kd.S_drewN | apply Kd.S_drew)); exact HO235.out), (by (with_reducible repeat (first | apply Kd.R_alloc | apply Kd.R_drewN | apply Kd.R_drew)); exact Kd.R_mono HO238.out (fun _ hk => hk.1)), (by repeat (first | (with_reducible first | exact HB.out | apply below_alloc | apply pw_below_drewN | apply below_drew1) | exact HB.out))⟩)
    rintro ⟨v234, v237⟩ w13 ⟨h0_, h1_, h2_⟩
    have n0_ : Aside0 (Kd.S (Kd.slice 54 k54) 31 w13 w.heap.size (fun k_ => (w.heap.size ≤ k_) ∧ some k_ ≠ (v237 : Value).ownBlock) v234 y233) := ⟨h0_⟩
    have n1_ : Aside0 (Kd.R (Kd.int .i64) 3 w13 w.heap.size (fun k_ => (w.heap.size ≤ k_)) v237 y236) := ⟨h1_⟩
    have n2_ : Aside0 (Below w.heap.size w w13) := ⟨h2_⟩
    clear HB
    clear h0_ h1_ h2_
    have HO235 := n0_
    have HO238 := n1_
    have HB := n2_
    clear n0_ n1_ n2_
    have hHeld := trivial
    refine norm_ (a' := ?_) ?_ ?_
    rotate_left
    ·simp only [putAll, Act.put, List.setIfInBounds_toArray, List.set_cons_zero, List.set_cons_succ]
     rfl
    refine pure_ (i := 4) (N := some 7) (v := ?_) (a' := ?_) #[true, true, true, true, true] rfl rfl (by kernel_rfl) (fun _ _ _ h => h) (Or.inl ⟨by rfl, ?_⟩) ?_ ?_
    (rotate_left; intro w'; go_simp; with_reducible rfl; rotate_left; simp only [Act.put, List.setIfInBounds_toArray, List.set_cons_zero, List.set_cons_succ, i64_w, i32_w]; rfl)
    refine done_ (by kernel_rfl) ?_
    try go_wp2
    go_loopg [6, 22] l1.length (fun kq v6 v22 w' => ∃ (x6_1 : List (List (S54))) (x7_1 : List Int) (x22_1 : Int), v22 = .int .i64 x22_1 ∧ Aside0 (impl_IntoRounds.loop (l1.drop x22_1.toNat) x6_1 x7_1 = some fin) ∧ Aside0 (0 ≤ x22_1 ∧ x22_1 + (kq : Int) = (l1.length : Int)) ∧ Aside0 (Kd.S (Kd.slice 54 k54) 31 w' w.heap.size (fun k_ => (w.heap.size ≤ k_) ∧ some k_ ≠ (v237 : Value).ownBlock) v6 x6_1) ∧ Aside0 (Kd.R (Kd.int .i64) 3 w' w.heap.size (fun k_ => (w.heap.size ≤ k_)) v237 x7_1) ∧ Aside0 (Below w.heap.size w w'))
    case atStart => exact ⟨y233, y236, 0, rfl, ⟨by rw [Ny233.out, Ny236.out]; exact HL0.out⟩, ⟨by omega⟩, HO235, HO238, HB⟩
    case round =>
      clear HL0
      obtain ⟨x6_1, x7_1, x22_1, rfl, HL, IX, HO_6, HO_7, HB⟩ := hrel
      by_cases c14 : x22_1 < (l1.length : Int)
      · have c14b0 : decide (x22_1 < (l1.length : Int)) = true := decide_eq_true c14
        have c15b0 : decide (0 ≤ x22_1) = true := decide_eq_true IX.out.1
        have EW : Aside0 (wrap64 (x22_1 + 1) = x22_1 + 1) := ⟨by have := Kd.C_max HR1.out; have := IX.out.1; unfold wrap64; omega⟩
        have hd : l1.drop x22_1.toNat = rd_T54 l1 x22_1 :: l1.drop (x22_1.toNat + 1) := by
          have hlt : x22_1.toNat < l1.length := by have := IX.out.1; omega
          rw [List.drop_eq_getElem_cons hlt]
          show _ = l1.getD x22_1.toNat z54 :: _
          rw [List.getD_eq_getElem?_getD, List.getElem?_eq_getElem hlt]
          rfl
        have hl0 := HL.out
        rw [hd, impl_IntoRounds.loop] at hl0
        obtain ⟨p, hp, hl⟩ := Option.bind_eq_some_iff.1 hl0
        unfold impl_IntoRounds.step at hp
        by_cases hc : 0 ≤ (rd_T54 l1 x22_1).f0 ∧ (rd_T54 l1 x22_1).f0 < (x7_1.length : Int) ∧ 0 ≤ (rd_T54 l1 x22_1).f1 ∧ (rd_T54 l1 x22_1).f1 < (x7_1.length : Int)
        case neg => rw [if_neg hc] at hp; cases hp
        rw [if_pos hc] at hp
        have HLn := Aside0.mk hl
        have CX : Aside0 (x22_1 < (l1.length : Int)) := ⟨c14⟩
        obtain ⟨ji21, hji21⟩ : ∃ j_ : Int, (mx (rd x7_1 ((rd_T54 l1 x22_1).f0)) (rd x7_1 ((rd_T54 l1 x22_1).f1))) = j_ := ⟨_, rfl⟩
        rw [hji21] at hp
        have hji21_ : (if (rd x7_1 ((rd_T54 l1 x22_1).f0)) < (rd x7_1 ((rd_T54 l1 x22_1).f1)) then (rd x7_1 ((rd_T54 l1 x22_1).f1)) else (rd x7_1 ((rd_T54 l1 x22_1).f0))) = ji21 := hji21
        have HPP := Aside0.mk hp
        have C0 := Aside0.mk hc
        have c17b0 : decide (0 ≤ ((rd_T54 l1 x22_1).f0)) = true := decide_eq_true hc.1
        have c18b0 : decide (((rd_T54 l1 x22_1).f0) < (x7_1.length : Int)) = true := decide_eq_true hc.2.1
        have c19b0 : decide (0 ≤ ((rd_T54 l1 x22_1).f1)) = true := decide_eq_true hc.2.2.1
        have c20b0 : decide (((rd_T54 l1 x22_1).f1) < (x7_1.length : Int)) = true := decide_eq_true hc.2.2.2
        clear HL hl0 hp hl hc hd c14
        have p239 : 0 ≤ (x22_1 : Int) := of_decide_eq_true (by first | (with_reducible assumption) | assumption)
        have q239 : x22_1 < (l1.length : Int) := of_decide_eq_true (by first | (with_reducible assumption) | assumption)
        obtain ⟨ad239, e239, hx239_0, hx239_1⟩ := at_T54 HR1.out x22_1 p239 q239
        cases e239
        replace hx239_0 := (HB.out.cell (World.block_lt_of_cell? w _ hx239_0)).trans hx239_0
        replace hx239_1 := (HB.out.cell (World.block_lt_of_cell? w _ hx239_1)).trans hx239_1
        replace p239 := eq_true p239
        replace q239 := eq_true q239
        try go_wp2_with (first | ((with_reducible refine gate_dst (N := 9) rfl ?_); refine box_event ?hg (N := 9) ?hd (cs := #[.int .i64 0, .int .i64 0]) (t := 54) ?hr ?_; (case hd => rfl); (case hg => rfl); (case hr => first | (go_simp; done) | (go_simp; rfl)); intro gb240 hg w30 hbox hb; have n0_ := Aside0.mk (Kd.S_below (Kd.S_elderB (by (with_reducible repeat (first | apply Kd.S_alloc | apply Kd.S_drewN | apply Kd.S_drew)); exact HO_6.out) gb240 (Nat.le_of_eq hg.symm)) hb); have n1_ := Aside0.mk (Kd.R_below (by (with_reducible repeat (first | apply Kd.R_alloc | apply Kd.R_drewN | apply Kd.R_drew)); exact HO_7.out) hb); have n2_ := Aside0.mk (below_step (by repeat (first | (with_reducible first | exact HB.out | apply below_alloc | apply pw_below_drewN | apply below_drew1) | exact HB.out)) hb); have n3_ := Aside0.mk (hbox); have n4_ := Aside0.mk ((by rw [hg]; exact (below_size (by repeat (first | (with_reducible first | exact HB.out | apply below_alloc | apply pw_below_drewN | apply below_drew1) | exact HB.out))) : w.heap.size ≤ gb240)); have n5_ := Aside0.mk ((by rw [hg]; exact (below_size (by repeat (first | (with_reducible first | exact HB.out | apply below_alloc | apply pw_below_drewN | apply below_drew1) | exact HB.out))) : w.heap.size ≤ gb240)); clear HO_6; clear HO_7; clear HB; have HO_6 := n0_; have HO_7 := n1_; have HB := n2_; have BK240 := n3_; have GW240 := n4_; have GE240 := n5_; clear n0_ n1_ n2_ n3_ n4_ n5_; clear hb hbox hg; have hcz31_0 : w30.cell? ⟨gb240, 0, none⟩ = some (.int .i64 0) := (blk_cell BK240.out 0).trans rfl; have hcz31_1 : w30.cell? ⟨gb240, 1, none⟩ = some (.int .i64 0) := (blk_cell BK240.out 1).trans rfl; have hfz31_0 := blk_frozen BK240.out 0; have hfz31_1 := blk_frozen BK240.out 1))
        have n0_ : Aside0 (Kd.S (Kd.slice 54 k54) 31 ((w30.setCell ⟨gb240, 0, none⟩ (.int .i64 ((rd_T54 l1 x22_1).f0))).setCell ⟨gb240, 1, none⟩ (.int .i64 ((rd_T54 l1 x22_1).f1))) w.heap.size (fun k_ => (w.heap.size ≤ k_) ∧ some k_ ≠ (v237 : Value).ownBlock ∧ k_ ≠ gb240) u6 x6_1) := ⟨by (with_reducible repeat (first | apply Kd.S_alloc | apply Kd.S_drewN | apply Kd.S_drew)); exact Kd.S_mono (Kd.S_far (p := ⟨gb240, 1, none⟩) (Kd.S_far (p := ⟨gb240, 0, none⟩) (Kd.S_mono HO_6.out (fun k_ hk => (⟨hk, hk.2⟩ : _ ∧ k_ ≠ gb240))) (fun _ hk => hk.2) (.int .i64 ((rd_T54 l1 x22_1).f0))) (fun _ hk => hk.2) (.int .i64 ((rd_T54 l1 x22_1).f1))) (fun _ hk => ⟨hk.1.1.1, ⟨hk.1.1.2, hk.1.2⟩⟩)⟩
        have n1_ : Aside0 (Kd.R (Kd.int .i64) 3 ((w30.setCell ⟨gb240, 0, none⟩ (.int .i64 ((rd_T54 l1 x22_1).f0))).setCell ⟨gb240, 1, none⟩ (.int .i64 ((rd_T54 l1 x22_1).f1))) w.heap.size (fun k_ => (w.heap.size ≤ k_)) v237 x7_1) := ⟨by (with_reducible repeat (first | apply Kd.R_alloc | apply Kd.R_drewN | apply Kd.R_drew)); exact Kd.R_mono (Kd.R_far (p := ⟨gb240, 1, none⟩) (Kd.R_far (p := ⟨gb240, 0, none⟩) (Kd.R_types HO_7.out BK240.out (by decide)) (fun _ hk => hk.2) (.int .i64 ((rd_T54 l1 x22_1).f0))) (fun _ hk => hk.2) (.int .i64 ((rd_T54 l1 x22_1).f1))) (fun _ hk => hk.1)⟩
        have n2_ : Aside0 (((w30.setCell ⟨gb240, 0, none⟩ (.int .i64 ((rd_T54 l1 x22_1).f0))).setCell ⟨gb240, 1, none⟩ (.int .i64 ((rd_T54 l1 x22_1).f1))).heap[gb240]? = some (.cells #[.int .i64 ((rd_T54 l1 x22_1).f0), .int .i64 ((rd_T54 l1 x22_1).f1)] 54 (0, 0))) := ⟨by (with_reducible repeat (first | refine blk_drewN ?_ _ | refine blk_drew ?_ | refine blk_alloc ?_ _)); refine blk_put (cs := #[.int .i64 ((rd_T54 l1 x22_1).f0), .int .i64 0]) ?_ 1 _ rfl; (with_reducible repeat (first | refine blk_drewN ?_ _ | refine blk_drew ?_ | refine blk_alloc ?_ _)); refine blk_put (cs := #[.int .i64 0, .int .i64 0]) ?_ 0 _ rfl; (with_reducible repeat (first | refine blk_drewN ?_ _ | refine blk_drew ?_ | refine blk_alloc ?_ _)); exact BK240.out⟩
        have n3_ : Aside0 (Below w.heap.size w ((w30.setCell ⟨gb240, 0, none⟩ (.int .i64 ((rd_T54 l1 x22_1).f0))).setCell ⟨gb240, 1, none⟩ (.int .i64 ((rd_T54 l1 x22_1).f1)))) := ⟨by repeat (first | (with_reducible first | exact HB.out | apply below_alloc | apply pw_below_drewN | apply below_drew1 | refine below_set ?_ GE240.out) | exact HB.out)⟩
        (try clear HO_6)
        (try clear HO_7)
        (try clear BK240)
        (try clear HB)
        generalize ((w30.setCell ⟨gb240, 0, none⟩ (.int .i64 ((rd_T54 l1 x22_1).f0))).setCell ⟨gb240, 1, none⟩ (.int .i64 ((rd_T54 l1 x22_1).f1))) = w32 at n0_ n1_ n2_ n3_ ⊢
        have HO_6 := n0_
        have HO_7 := n1_
        have BK240 := n2_
        have HB := n3_
        clear n0_ n1_ n2_ n3_
        have n0_ := Aside0.mk (Kd.S_drew HO_6.out)
        have n1_ := Aside0.mk (Kd.R_drew HO_7.out)
        have n2_ := Aside0.mk (blk_drew BK240.out)
        have n3_ := Aside0.mk (below_drew1 HB.out)
        clear HO_6
        clear HO_7
        clear BK240
        clear HB
        have HO_6 := n0_
        have HO_7 := n1_
        have BK240 := n2_
        have HB := n3_
        clear n0_ n1_ n2_ n3_
        obtain ⟨Ao34, co34, eo34⟩ := Kd.R_slice HO_7.out
        (first | subst eo34 | (injection eo34 with f1_ f2_ f3_; have f4_ := f1_.symm; have f5_ := f3_.symm; clear f1_ f2_ f3_; subst f4_; subst f5_))
        have p241 : 0 ≤ (((rd_T54 l1 x22_1).f0) : Int) := of_decide_eq_true (by first | (with_reducible assumption) | assumption)
        have q241 : ((rd_T54 l1 x22_1).f0) < (x7_1.length : Int) := of_decide_eq_true (by first | (with_reducible assumption) | assumption)
        obtain ⟨ad241, e241, hx241_0⟩ := Kd.at_int (Kd.R_reads' HO_7.out).2.2 ((rd_T54 l1 x22_1).f0) p241 q241
        cases e241
        replace p241 := eq_true p241
        replace q241 := eq_true q241
        have p242 : 0 ≤ (((rd_T54 l1 x22_1).f1) : Int) := of_decide_eq_true (by first | (with_reducible assumption) | assumption)
        have q242 : ((rd_T54 l1 x22_1).f1) < (x7_1.length : Int) := of_decide_eq_true (by first | (with_reducible assumption) | assumption)
        obtain ⟨ad242, e242, hx242_0⟩ := Kd.at_int (Kd.R_reads' HO_7.out).2.2 ((rd_T54 l1 x22_1).f1) p242 q242
        obtain rfl : ad241 = ad242 := (by injection e242)
        replace p242 := eq_true p242
        replace q242 := eq_true q242
        refine start_ (n := 12) (S := fun w' => w'.cell? ⟨gb240, 0, none⟩ = some (.int .i64 ((rd_T54 l1 x22_1).f0)) ∧ w'.cell? ⟨gb240, 1, none⟩ = some (.int .i64 ((rd_T54 l1 x22_1).f1)) ∧ w'.cell? (ad241.add (((rd_T54 l1 x22_1).f0)).toNat) = some (.int .i64 (rd x7_1 ((rd_T54 l1 x22_1).f0))) ∧ w'.cell? (ad241.add (((rd_T54 l1 x22_1).f1)).toNat) = some (.int .i64 (rd x7_1 ((rd_T54 l1 x22_1).f1)))) (ds := []) #[false, false, false, false, false, false, false, false, false, false, false, false] (by kernel_rfl) rfl rfl ⟨(blk_cell BK240.out 0).trans rfl, (blk_cell BK240.out 1).trans rfl, hx241_0, hx242_0⟩ (fun hHeld => ?_); refine with_tabW impl_IntoRounds.tab7 impl_IntoRounds.bits7 (fun HT_ HW_ => ?_)
        generalize w32.drew = w33 at HO_6 HO_7 BK240 HB hx241_0 hx242_0 hHeld ⊢
        refine pure_ (i := 0) (N := some 26) (v := ?_) (a' := ?_) #[true, false, false, false, false, false, false, false, false, false, false, false] rfl rfl (any_of HT_.out (by kernel_rfl)) (fun _ _ _ h => h) (Or.inl ⟨by rfl, ?_⟩) ?_ ?_
        (rotate_left; intro w'; go_simp; with_reducible rfl; rotate_left; simp only [Act.put, List.setIfInBounds_toArray, List.set_cons_zero, List.set_cons_succ, i64_w, i32_w]; rfl)
        refine pure_ (i := 1) (N := some 27) (v := ?_) (a' := ?_) #[true, true, false, false, false, false, false, false, false, false, false, false] rfl rfl (any_of HT_.out (by kernel_rfl)) (fun _ _ _ h => h) (Or.inl ⟨by rfl, ?_⟩) ?_ ?_
        (rotate_left; intro w'; go_simp; with_reducible rfl; rotate_left; simp only [Act.put, List.setIfInBounds_toArray, List.set_cons_zero, List.set_cons_succ, i64_w, i32_w]; rfl)
        refine pure_ (i := 5) (N := some 31) (v := ?_) (a' := ?_) #[true, true, false, false, false, true, false, false, false, false, false, false] rfl rfl (any_of HT_.out (by kernel_rfl)) (fun _ _ _ h => h) (Or.inl ⟨by rfl, ?_⟩) ?_ ?_
        (rotate_left; intro w'; go_simp; with_reducible rfl; rotate_left; simp only [Act.put, List.setIfInBounds_toArray, List.set_cons_zero, List.set_cons_succ, i64_w, i32_w]; rfl)
        refine pure_ (i := 6) (N := some 32) (v := ?_) (a' := ?_) #[true, true, false, false, false, true, true, false, false, false, false, false] rfl rfl (any_of HT_.out (by kernel_rfl)) (fun _ _ _ h => h) (Or.inl ⟨by rfl, ?_⟩) ?_ ?_
        (rotate_left; intro w'; go_simp; with_reducible rfl; rotate_left; simp only [Act.put, List.setIfInBounds_toArray, List.set_cons_zero, List.set_cons_succ, i64_w, i32_w]; rfl)
        refine take_ (i := 2) (N := some 28) (v := ?_) (a' := ?_) #[true, true, true, false, false, true, true, false, false, false, false, false] rfl rfl (take_ofW HT_.out HW_.out (by kernel_rfl)) (fun _ _ _ h => h) (Or.inl ⟨by rfl, ?_⟩) hHeld ?_ ?_
        rotate_left
        ·rintro w' ⟨s0, s1, s2, s3⟩
         go_simp
         with_reducible rfl
        (rotate_left; simp only [Act.put, List.setIfInBounds_toArray, List.set_cons_zero, List.set_cons_succ, i64_w, i32_w]; rfl)
        refine pure_ (i := 3) (N := some 29) (v := ?_) (a' := ?_) #[true, true, true, true, false, true, true, false, false, false, false, false] rfl rfl (any_of HT_.out (by kernel_rfl)) (fun _ _ _ h => h) (Or.inl ⟨by rfl, ?_⟩) ?_ ?_
        (rotate_left; intro w'; go_simp; with_reducible rfl; rotate_left; simp only [Act.put, List.setIfInBounds_toArray, List.set_cons_zero, List.set_cons_succ, i64_w, i32_w]; rfl)
        refine take_ (i := 4) (N := some 30) (v := ?_) (a' := ?_) #[true, true, true, true, true, true, true, false, false, false, false, false] rfl rfl (take_ofW HT_.out HW_.out (by kernel_rfl)) (fun _ _ _ h => h) (Or.inl ⟨by rfl, ?_⟩) hHeld ?_ ?_
        rotate_left
        ·rintro w' ⟨s0, s1, s2, s3⟩
         go_simp
         with_reducible rfl
        (rotate_left; simp only [Act.put, List.setIfInBounds_toArray, List.set_cons_zero, List.set_cons_succ, i64_w, i32_w]; rfl)
        refine take_ (i := 7) (N := some 33) (v := ?_) (a' := ?_) #[true, true, true, true, true, true, true, true, false, false, false, false] rfl rfl (take_ofW HT_.out HW_.out (by kernel_rfl)) (fun _ _ _ h => h) (Or.inl ⟨by rfl, ?_⟩) hHeld ?_ ?_
        rotate_left
        ·rintro w' ⟨s0, s1, s2, s3⟩
         go_simp
         with_reducible rfl
        (rotate_left; simp only [Act.put, List.setIfInBounds_toArray, List.set_cons_zero, List.set_cons_succ, i64_w, i32_w]; rfl)
        refine pure_ (i := 8) (N := some 34) (v := ?_) (a' := ?_) #[true, true, true, true, true, true, true, true, true, false, false, false] rfl rfl (any_of HT_.out (by kernel_rfl)) (fun _ _ _ h => h) (Or.inl ⟨by rfl, ?_⟩) ?_ ?_
        (rotate_left; intro w'; go_simp; with_reducible rfl; rotate_left; simp only [Act.put, List.setIfInBounds_toArray, List.set_cons_zero, List.set_cons_succ, i64_w, i32_w]; rfl)
        refine take_ (i := 9) (N := some 35) (v := ?_) (a' := ?_) #[true, true, true, true, true, true, true, true, true, true, false, false] rfl rfl (take_ofW HT_.out HW_.out (by kernel_rfl)) (fun _ _ _ h => h) (Or.inl ⟨by rfl, ?_⟩) hHeld ?_ ?_
        rotate_left
        ·rintro w' ⟨s0, s1, s2, s3⟩
         go_simp
         with_reducible rfl
        (rotate_left; simp only [Act.put, List.setIfInBounds_toArray, List.set_cons_zero, List.set_cons_succ, i64_w, i32_w]; rfl)
        refine pure_ (i := 10) (N := some 36) (v := ?_) (a' := ?_) #[true, true, true, true, true, true, true, true, true, true, true, false] rfl rfl (any_of HT_.out (by kernel_rfl)) (fun _ _ _ h => h) (Or.inl ⟨by rfl, ?_⟩) ?_ ?_
        (rotate_left; intro w'; go_simp; with_reducible rfl; rotate_left; simp only [Act.put, List.setIfInBounds_toArray, List.set_cons_zero, List.set_cons_succ, i64_w, i32_w]; rfl)
        refine pure_ (i := 11) (N := some 10) (v := ?_) (a' := ?_) #[true, true, true, true, true, true, true, true, true, true, true, true] rfl rfl (any_of HT_.out (by kernel_rfl)) (fun _ _ _ h => h) (Or.inl ⟨by rfl, ?_⟩) ?_ ?_
        (rotate_left; intro w'; go_simp; with_reducible rfl; rotate_left; simp only [Act.put, List.setIfInBounds_toArray, List.set_cons_zero, List.set_cons_succ, i64_w, i32_w]; rfl)
        refine done_ (done_of HT_.out (by kernel_rfl)) ?_
        clear hji21 hji21_ hHeld HT_ HW_
        obtain ⟨gf, cf, ef, gfb, gfl, clf, hgf⟩ := Kd.R_form HO_7.out (by have := C0.out; omega)
        (first | cases ef | (injection ef with ea_ en_ ec_; (first | subst ea_ | (injection ea_ with ea_; subst ea_)); subst ec_; clear en_))
        have GFB := Aside0.mk gfb
        clear gfb gfl hgf
        (try clear hx241_0)
        (try clear hx242_0)
        (try clear hx239_0)
        (try clear hx239_1)
        (try clear hcz31_0)
        (try clear hcz31_1)
        (try clear hfz31_0)
        (try clear hfz31_1)
        obtain ⟨Ao35, co35, eo35⟩ := Kd.S_slice HO_6.out
        subst eo35
        have hpp := HPP.out
        clear HPP
        by_cases c22 : ji21 = (x6_1.length : Int)
        · rw [if_pos c22] at hpp
          have c22b0 : ((ji21) == (x6_1.length : Int)) = true := beq_iff_eq.mpr c22
          clear c22
          by_cases c23 : x6_1.length < 1048576
          case neg => rw [if_neg c23] at hpp; cases hpp
          rw [if_pos c23] at hpp
          have LMc23 := Aside0.mk c23
          clear c23
          obtain ⟨y243, hy243⟩ : ∃ y_ : List (List (S54)), y_ = (x6_1 ++ [[]]) := ⟨_, rfl⟩
          rw [← hy243] at hpp
          have Ny243 := Aside0.mk hy243
          clear hy243
          unfold impl_IntoRounds.put at hpp
          by_cases hq : 0 ≤ ji21 ∧ ji21 < (y243.length : Int) ∧ (y243.getD ji21.toNat []).length < 1048576
          case neg => rw [if_neg hq] at hpp; cases hpp
          rw [if_pos hq] at hpp
          obtain rfl := Option.some.inj hpp
          have PJ := Aside0.mk hq.1
          have QJ := Aside0.mk hq.2.1
          have LJ := Aside0.mk hq.2.2
          clear hpp hq
          go_wp2_with (first | ((with_reducible refine gate_builtin (b := .append) (xs := #[.tmp 41, .tmp 42]) rfl ?_); at_builtin; refine Kd.S_append (Kd.slice 54 k54) (w0 := w) w.heap.size rfl (.tmp 41) (.tmp 42) 22 31 (.slice none 0 0) 24 rfl Try.underlying22 info31 rfl (by decide) (by omega) (.slice Ao35 x6_1.length co35) x6_1 [] [.slice none 0 0] (fun k_ => (w.heap.size ≤ k_) ∧ some k_ ≠ (.slice (some ⟨gf, 0, none⟩) x7_1.length co34 : Value).ownBlock ∧ k_ ≠ gb240) (fun _ => False) rfl rfl ?aP (fun _ hk => hk.elim) ?aF ?aO ?aB ?aS ?aL ?_; (case aP => exact Kd.M_row (Kd.R_nil _ _ _ _ _)); (case aB => exact HB.out); (case aF => exact (fun k_ hk => ⟨Nat.le_trans (below_size HB.out) hk, Kd.fresh' (Kd.R_lt HO_7.out) k_ hk, Kd.freshB BK240.out k_ hk⟩)); (case aO => exact Kd.S_mono HO_6.out (fun _ hk => ⟨hk, fun h_ => h_⟩)); (case aS => exact below_size HB.out); (case aL => have := LMc23.out; omega); intro v244 w36 ho hb hg hat; rw [← Ny243.out] at ho; have n0_ := Aside0.mk (Kd.R_over' HO_7.out (Kd.S_typed HO_6.out) (by decide) hg); have n1_ := Aside0.mk (blk_grown BK240.out hg (fun e_ => ((Kd.S_R HO_6.out).1 gb240 e_.symm).2.2 rfl)); have n2_ := Aside0.mk hb; have n3_ := Aside0.mk ho; clear HO_7; clear BK240; clear HB; clear HO_6; have HO_7 := n0_; have BK240 := n1_; have HB := n2_; have HO_6 := n3_; clear n0_ n1_ n2_ n3_; clear ho hb hg hat))
          obtain ⟨go, co, rfl, gob, gol, clo, hgo⟩ := Kd.S_form HO_6.out (by have := PJ.out; have := QJ.out; omega)
          have GOB := Aside0.mk gob
          have NGO : Aside0 (go ≠ gb240) := ⟨((Kd.S_R HO_6.out).1 go rfl).2.2⟩
          have NGF : Aside0 (go ≠ gf) := ⟨fun e_ => ((Kd.S_R HO_6.out).1 go rfl).2.1 (by rw [e_]; rfl)⟩
          have HL : Aside0 (impl_IntoRounds.loop (l1.drop (wrap64 (x22_1 + 1)).toNat) (y243.set ji21.toNat (y243.getD ji21.toNat [] ++ [rd_T54 l1 x22_1])) ((x7_1.set ((rd_T54 l1 x22_1).f0).toNat (wrap64 (ji21 + 1))).set ((rd_T54 l1 x22_1).f1).toNat (wrap64 (ji21 + 1))) = some fin) := ⟨by rw [EW.out, show (x22_1 + 1).toNat = x22_1.toNat + 1 by have := IX.out; omega]; exact HLn.out⟩
          clear gob gol hgo HLn
          have HHO := Aside0.mk (Kd.S_drew HO_6.out)
          have HHF := Aside0.mk (Kd.R_drew HO_7.out)
          have HHK := Aside0.mk (blk_drew BK240.out)
          have HHB := Aside0.mk (below_drew1 HB.out)
          clear HO_6 HO_7 BK240 HB
          have HO_6 := HHO
          have HO_7 := HHF
          have BK240 := HHK
          have HB := HHB
          clear HHO HHF HHK HHB
          obtain ⟨vr, oki, hcr, hfr, hRr, hoki, hback, -⟩ := Go.Proofs.Ytgcpbaipdpchfaa.H.S_row HO_6.out (ji21 : Int) PJ.out QJ.out (fun k_ hk => ⟨Nat.le_trans (below_size HB.out) hk, Kd.fresh' (Kd.R_lt HO_7.out) k_ hk, Kd.freshB BK240.out k_ hk⟩)
          obtain ⟨row_, hrow_⟩ : ∃ x_ : List (S54), x_ = y243.getD (ji21 : Int).toNat [] := ⟨_, rfl⟩
          rw [← hrow_] at hRr LJ HL
          clear hrow_
          obtain ⟨Ar, cr, rfl⟩ := Kd.R_slice hRr
          have HRr := Aside0.mk hRr
          have HOK := Aside0.mk hoki
          have HBK := Aside0.mk hback
          clear hRr hoki hback
          have pj_ := eq_true PJ.out
          have qj_ := eq_true QJ.out
          refine start_ (n := 11) (S := fun w' => w'.cell? ⟨gb240, 0, none⟩ = some (.int .i64 ((rd_T54 l1 x22_1).f0)) ∧ w'.cell? ⟨gb240, 1, none⟩ = some (.int .i64 ((rd_T54 l1 x22_1).f1)) ∧ w'.cell? ⟨go, (ji21 : Int).toNat, none⟩ = some (.slice Ar row_.length cr)) (ds := [8, 10]) #[false, false, false, false, false, false, false, false, false, false, false] (by kernel_rfl) rfl rfl ⟨(blk_cell BK240.out 0).trans rfl, (blk_cell BK240.out 1).trans rfl, hcr⟩ (fun hHeld => ?_); refine with_tabW impl_IntoRounds.tab10 impl_IntoRounds.bits10 (fun HT_ HW_ => ?_)
          generalize hgw_ : World.drew _ = w33 at HO_6 HO_7 BK240 HB hcr hfr HRr HBK hHeld ⊢
          clear hgw_
          refine pure_ (i := 0) (N := some 44) (v := ?_) (a' := ?_) #[true, false, false, false, false, false, false, false, false, false, false] rfl rfl (any_of HT_.out (by kernel_rfl)) (fun _ _ _ h => h) (Or.inl ⟨by rfl, ?_⟩) ?_ ?_
          (rotate_left; intro w'; go_simp; with_reducible rfl; rotate_left; simp only [Act.put, List.setIfInBounds_toArray, List.set_cons_zero, List.set_cons_succ, i64_w, i32_w]; rfl)
          refine pure_ (i := 1) (N := some 45) (v := ?_) (a' := ?_) #[true, true, false, false, false, false, false, false, false, false, false] rfl rfl (any_of HT_.out (by kernel_rfl)) (fun _ _ _ h => h) (Or.inl ⟨by rfl, ?_⟩) ?_ ?_
          (rotate_left; intro w'; go_simp; with_reducible rfl; rotate_left; simp only [Act.put, List.setIfInBounds_toArray, List.set_cons_zero, List.set_cons_succ, i64_w, i32_w]; rfl)
          refine pure_ (i := 2) (N := some 46) (v := ?_) (a' := ?_) #[true, true, true, false, false, false, false, false, false, false, false] rfl rfl (any_of HT_.out (by kernel_rfl)) (fun _ _ _ h => h) (Or.inl ⟨by rfl, ?_⟩) ?_ ?_
          (rotate_left; intro w'; go_simp; with_reducible rfl; rotate_left; simp only [Act.put, List.setIfInBounds_toArray, List.set_cons_zero, List.set_cons_succ, i64_w, i32_w]; rfl)
          refine pure_ (i := 3) (N := some 47) (v := ?_) (a' := ?_) #[true, true, true, true, false, false, false, false, false, false, false] rfl rfl (any_of HT_.out (by kernel_rfl)) (fun _ _ _ h => h) (Or.inl ⟨by rfl, ?_⟩) ?_ ?_
          (rotate_left; intro w'; go_simp; with_reducible rfl; rotate_left; simp only [Act.put, List.setIfInBounds_toArray, List.set_cons_zero, List.set_cons_succ, i64_w, i32_w]; rfl)
          refine pure_ (i := 4) (N := some 48) (v := ?_) (a' := ?_) #[true, true, true, true, true, false, false, false, false, false, false] rfl rfl (any_of HT_.out (by kernel_rfl)) (fun _ _ _ h => h) (Or.inl ⟨by rfl, ?_⟩) ?_ ?_
          (rotate_left; intro w'; go_simp; with_reducible rfl; rotate_left; simp only [Act.put, List.setIfInBounds_toArray, List.set_cons_zero, List.set_cons_succ, i64_w, i32_w]; rfl)
          refine take_ (i := 5) (N := some 49) (v := ?_) (a' := ?_) #[true, true, true, true, true, true, false, false, false, false, false] rfl rfl (take_ofW HT_.out HW_.out (by kernel_rfl)) (fun _ _ _ h => h) (Or.inl ⟨by rfl, ?_⟩) hHeld ?_ ?_
          (rotate_left; rintro w' ⟨s0, s1, s2⟩; go_simp; with_reducible rfl; rotate_left; simp only [Act.put, List.setIfInBounds_toArray, List.set_cons_zero, List.set_cons_succ, i64_w, i32_w]; rfl)
          refine take_ (i := 6) (N := some 50) (v := ?_) (a' := ?_) #[true, true, true, true, true, true, true, false, false, false, false] rfl rfl (take_ofW HT_.out HW_.out (by kernel_rfl)) (fun _ _ _ h => h) (Or.inl ⟨by rfl, ?_⟩) hHeld ?_ ?_
          (rotate_left; rintro w' ⟨s0, s1, s2⟩; go_simp; with_reducible rfl; rotate_left; simp only [Act.put, List.setIfInBounds_toArray, List.set_cons_zero, List.set_cons_succ, i64_w, i32_w]; rfl)
          refine one_ (i := 7) (N := some 51) #[true, true, true, true, true, true, true, true, false, false, false] rfl rfl (one_of HT_.out (by kernel_rfl)) (by decide) (fun K hK => ?_)
          refine value_ (w1 := w33.alloc (.cells #[.int .i64 ((rd_T54 l1 x22_1).f0), .int .i64 ((rd_T54 l1 x22_1).f1)] 54)) (v := .slice (some ⟨w33.heap.size, 0, none⟩) 1 1) (by rfl) rfl (by first | (go_simp; done) | (go_simp; rfl)) ?_
          refine hK.out _ _ ⟨(blk_cell (blk_alloc BK240.out _) 0).trans rfl, (blk_cell (blk_alloc BK240.out _) 1).trans rfl, Go.Proofs.Ytgcpbaipdpchfaa.H.cell_b (below_alloc (Below.refl _ _) _) hcr⟩ (fun hHeld2 => ?_)
          clear hK K
          refine norm_ (a' := ?_) ?_ ?_
          rotate_left
          · show Act.put _ (some 51) _ = _
            simp only [Act.put, List.setIfInBounds_toArray, List.set_cons_zero, List.set_cons_succ, i64_w, i32_w]
            rfl
          refine last_ (i := 8) (N := some 52) #[true, true, true, true, true, true, true, true, true, false, false] rfl rfl (one_of HT_.out (by kernel_rfl)) (by decide) (fun K hK => ?_)
          refine Kd.R_append_step k54 (w0 := w) w.heap.size (by rfl) (.tmp 49) (.tmp 51) 31 54 (.agg #[.int .i64 0, .int .i64 0]) 16 rfl Try.underlying31 info54 rfl (by decide) (by omega) (.slice Ar row_.length cr) row_ (rd_T54 l1 x22_1) [.int .i64 ((rd_T54 l1 x22_1).f0), .int .i64 ((rd_T54 l1 x22_1).f1)] (fun k_ => oki k_ ∨ w33.heap.size ≤ k_) (fun _ => False) rfl rfl (k54_mk w33 (rd_T54 l1 x22_1)) (fun _ hk => hk.elim) (fun _ hk => .inr hk) (Kd.R_mono HRr.out (fun _ hk => .inl hk)) HB.out (below_size HB.out) (by have := LJ.out; omega) ?_
          intro v1 w34 ho1 hb1 hg1 hat1
          obtain ⟨A1_, c1_, rfl⟩ := Kd.R_slice ho1
          obtain ⟨hcr2, hfr2, hS2⟩ := HBK.out _ _ _ ho1 hg1
          have HO2 := Aside0.mk hS2
          have ng_ : some gb240 ≠ (Value.slice Ar row_.length cr).ownBlock := fun e_ => (HOK.out gb240 (HRr.out.1 gb240 e_.symm)).1.2.2 rfl
          have HK2 := Aside0.mk (blk_grown BK240.out hg1 ng_)
          have HF2 : Aside0 (Kd.R (Kd.int .i64) 3 w34 w.heap.size (fun k_ => w.heap.size ≤ k_) (.slice (some ⟨gf, 0, none⟩) x7_1.length co34) x7_1) := ⟨Kd.R_over' HO_7.out (Kd.R_typed HRr.out) (by decide) hg1⟩
          have HB2 := Aside0.mk hb1
          clear hS2 hb1 hg1 hat1 ho1 HBK HOK HRr HO_6 HO_7 BK240 HB hcr hfr hHeld hHeld2
          refine hK.out _ _ ?_
          clear hK K
          refine norm_ (a' := ?_) ?_ ?_
          rotate_left
          · show Act.put _ (some 52) _ = _
            simp only [Act.put, List.setIfInBounds_toArray, List.set_cons_zero, List.set_cons_succ, i64_w, i32_w]
            rfl
          refine pure_ (i := 9) (N := some 53) (v := ?_) (a' := ?_) #[true, true, true, true, true, true, true, true, true, true, false] rfl rfl (any_of HT_.out (by kernel_rfl)) (fun _ _ _ h => h) (Or.inl ⟨by rfl, ?_⟩) ?_ ?_
          (rotate_left; intro w'; go_simp; with_reducible rfl; rotate_left; simp only [Act.put, List.setIfInBounds_toArray, List.set_cons_zero, List.set_cons_succ, i64_w, i32_w]; rfl)
          refine last_ (i := 10) (N := none) #[true, true, true, true, true, true, true, true, true, true, true] rfl rfl (one_of HT_.out (by kernel_rfl)) (by decide) (fun K hK => ?_)
          refine skip_ (w1 := w34.setCell ⟨go, (ji21 : Int).toNat, none⟩ (.slice A1_ (row_ ++ [rd_T54 l1 x22_1]).length c1_)) (by rfl) rfl (by first | (go_simp; done) | (go_simp; rfl)) ?_
          refine hK.out _ _ ?_
          clear hK K
          refine done_ (done_of HT_.out (by kernel_rfl)) ?_
          clear hcr2 hfr2
          have ngo_ : gb240 ≠ go := fun e_ => NGO.out e_.symm
          have HK3 : Aside0 ((w34.setCell ⟨go, (ji21 : Int).toNat, none⟩ (.slice A1_ (row_ ++ [rd_T54 l1 x22_1]).length c1_)).heap[gb240]? = some (.cells #[.int .i64 ((rd_T54 l1 x22_1).f0), .int .i64 ((rd_T54 l1 x22_1).f1)] 54 (0, 0))) := ⟨(Below.heap_setCell w34 ⟨go, (ji21 : Int).toNat, none⟩ _ gb240 ngo_).trans HK2.out⟩
          have HF3 : Aside0 (Kd.R (Kd.int .i64) 3 (w34.setCell ⟨go, (ji21 : Int).toNat, none⟩ (.slice A1_ (row_ ++ [rd_T54 l1 x22_1]).length c1_)) w.heap.size (fun k_ => w.heap.size ≤ k_) (.slice (some ⟨gf, 0, none⟩) x7_1.length co34) x7_1) := ⟨Kd.R_mono (Kd.R_far (p := ⟨go, (ji21 : Int).toNat, none⟩) (Kd.R_tight rfl HF2.out) (fun k_ hk_ e_ => NGF.out (by have h9 : some k_ = some gf := hk_; injection h9 with h9; rw [← h9]; exact e_.symm)) _) (fun k_ hk_ => by have h9 : some k_ = some gf := hk_; injection h9 with h9; rw [h9]; exact GFB.out)⟩
          have HB3 : Aside0 (Below w.heap.size w (w34.setCell ⟨go, (ji21 : Int).toNat, none⟩ (.slice A1_ (row_ ++ [rd_T54 l1 x22_1]).length c1_))) := ⟨Below.setCell HB2.out (p := ⟨go, (ji21 : Int).toNat, none⟩) GOB.out _⟩
          generalize (w34.setCell ⟨go, (ji21 : Int).toNat, none⟩ (.slice A1_ (row_ ++ [rd_T54 l1 x22_1]).length c1_)) = w35 at HO2 HK3 HF3 HB3 ⊢
          clear HK2 HF2 HB2
          try go_wp2
          have HHO := Aside0.mk (Kd.S_drew HO2.out)
          have HHF := Aside0.mk (Kd.R_drew HF3.out)
          have HHK := Aside0.mk (blk_drew HK3.out)
          have HHB := Aside0.mk (below_drew1 HB3.out)
          clear HO2 HF3 HK3 HB3
          obtain ⟨hx0_, hf0_⟩ := Kd.R_celln 0 HHF.out ((rd_T54 l1 x22_1).f0) C0.out.1 C0.out.2.1
          obtain ⟨hx1_, hf1_⟩ := Kd.R_celln 0 HHF.out ((rd_T54 l1 x22_1).f1) C0.out.2.2.1 C0.out.2.2.2
          have pa_ := eq_true C0.out.1
          have pb_ := eq_true C0.out.2.1
          have pc_ := eq_true C0.out.2.2.1
          have pd_ := eq_true C0.out.2.2.2
          have HP1 := Aside0.mk (Kd.R_putn HHF.out ((rd_T54 l1 x22_1).f0) (wrap64 (ji21 + 1)))
          refine start_ (n := 14) (S := fun w' => w'.cell? ⟨gb240, 0, none⟩ = some (.int .i64 ((rd_T54 l1 x22_1).f0)) ∧ w'.cell? ⟨gb240, 1, none⟩ = some (.int .i64 ((rd_T54 l1 x22_1).f1))) (ds := [13]) #[false, false, false, false, false, false, false, false, false, false, false, false, false, false] (by kernel_rfl) rfl rfl ⟨(blk_cell HHK.out 0).trans rfl, (blk_cell HHK.out 1).trans rfl⟩ (fun hHeld => ?_); refine with_tabW impl_IntoRounds.tab11 impl_IntoRounds.bits11 (fun HT_ HW_ => ?_)
          generalize hgw_ : World.drew _ = w42 at HHO HHF HHK HHB HP1 hx0_ hf0_ hx1_ hf1_ hHeld ⊢
          clear hgw_
          refine pure_ (i := 0) (N := some 54) (v := ?_) (a' := ?_) #[true, false, false, false, false, false, false, false, false, false, false, false, false, false] rfl rfl (any_of HT_.out (by kernel_rfl)) (fun _ _ _ h => h) (Or.inl ⟨by rfl, ?_⟩) ?_ ?_
          (rotate_left; intro w'; go_simp; with_reducible rfl; rotate_left; simp only [Act.put, List.setIfInBounds_toArray, List.set_cons_zero, List.set_cons_succ, i64_w, i32_w]; rfl)
          refine pure_ (i := 1) (N := some 55) (v := ?_) (a' := ?_) #[true, true, false, false, false, false, false, false, false, false, false, false, false, false] rfl rfl (any_of HT_.out (by kernel_rfl)) (fun _ _ _ h => h) (Or.inl ⟨by rfl, ?_⟩) ?_ ?_
          (rotate_left; intro w'; go_simp; with_reducible rfl; rotate_left; simp only [Act.put, List.setIfInBounds_toArray, List.set_cons_zero, List.set_cons_succ, i64_w, i32_w]; rfl)
          refine pure_ (i := 3) (N := some 57) (v := ?_) (a' := ?_) #[true, true, false, true, false, false, false, false, false, false, false, false, false, false] rfl rfl (any_of HT_.out (by kernel_rfl)) (fun _ _ _ h => h) (Or.inl ⟨by rfl, ?_⟩) ?_ ?_
          (rotate_left; intro w'; go_simp; with_reducible rfl; rotate_left; simp only [Act.put, List.setIfInBounds_toArray, List.set_cons_zero, List.set_cons_succ, i64_w, i32_w]; rfl)
          refine pure_ (i := 4) (N := some 58) (v := ?_) (a' := ?_) #[true, true, false, true, true, false, false, false, false, false, false, false, false, false] rfl rfl (any_of HT_.out (by kernel_rfl)) (fun _ _ _ h => h) (Or.inl ⟨by rfl, ?_⟩) ?_ ?_
          (rotate_left; intro w'; go_simp; with_reducible rfl; rotate_left; simp only [Act.put, List.setIfInBounds_toArray, List.set_cons_zero, List.set_cons_succ, i64_w, i32_w]; rfl)
          refine pure_ (i := 6) (N := some 60) (v := ?_) (a' := ?_) #[true, true, false, true, true, false, true, false, false, false, false, false, false, false] rfl rfl (any_of HT_.out (by kernel_rfl)) (fun _ _ _ h => h) (Or.inl ⟨by rfl, ?_⟩) ?_ ?_
          (rotate_left; intro w'; go_simp; with_reducible rfl; rotate_left; simp only [Act.put, List.setIfInBounds_toArray, List.set_cons_zero, List.set_cons_succ, i64_w, i32_w]; rfl)
          refine pure_ (i := 7) (N := some 61) (v := ?_) (a' := ?_) #[true, true, false, true, true, false, true, true, false, false, false, false, false, false] rfl rfl (any_of HT_.out (by kernel_rfl)) (fun _ _ _ h => h) (Or.inl ⟨by rfl, ?_⟩) ?_ ?_
          (rotate_left; intro w'; go_simp; with_reducible rfl; rotate_left; simp only [Act.put, List.setIfInBounds_toArray, List.set_cons_zero, List.set_cons_succ, i64_w, i32_w]; rfl)
          refine pure_ (i := 8) (N := some 62) (v := ?_) (a' := ?_) #[true, true, false, true, true, false, true, true, true, false, false, false, false, false] rfl rfl (any_of HT_.out (by kernel_rfl)) (fun _ _ _ h => h) (Or.inl ⟨by rfl, ?_⟩) ?_ ?_
          (rotate_left; intro w'; go_simp; with_reducible rfl; rotate_left; simp only [Act.put, List.setIfInBounds_toArray, List.set_cons_zero, List.set_cons_succ, i64_w, i32_w]; rfl)
          refine pure_ (i := 9) (N := some 63) (v := ?_) (a' := ?_) #[true, true, false, true, true, false, true, true, true, true, false, false, false, false] rfl rfl (any_of HT_.out (by kernel_rfl)) (fun _ _ _ h => h) (Or.inl ⟨by rfl, ?_⟩) ?_ ?_
          (rotate_left; intro w'; go_simp; with_reducible rfl; rotate_left; simp only [Act.put, List.setIfInBounds_toArray, List.set_cons_zero, List.set_cons_succ, i64_w, i32_w]; rfl)
          refine take_ (i := 2) (N := some 56) (v := ?_) (a' := ?_) #[true, true, true, true, true, false, true, true, true, true, false, false, false, false] rfl rfl (take_ofW HT_.out HW_.out (by kernel_rfl)) (fun _ _ _ h => h) (Or.inl ⟨by rfl, ?_⟩) hHeld ?_ ?_
          (rotate_left; rintro w' ⟨s0, s1⟩; go_simp; with_reducible rfl; rotate_left; simp only [Act.put, List.setIfInBounds_toArray, List.set_cons_zero, List.set_cons_succ, i64_w, i32_w]; rfl)
          refine take_ (i := 5) (N := some 59) (v := ?_) (a' := ?_) #[true, true, true, true, true, true, true, true, true, true, false, false, false, false] rfl rfl (take_ofW HT_.out HW_.out (by kernel_rfl)) (fun _ _ _ h => h) (Or.inl ⟨by rfl, ?_⟩) hHeld ?_ ?_
          (rotate_left; rintro w' ⟨s0, s1⟩; go_simp; with_reducible rfl; rotate_left; simp only [Act.put, List.setIfInBounds_toArray, List.set_cons_zero, List.set_cons_succ, i64_w, i32_w]; rfl)
          refine pure_ (i := 10) (N := some 64) (v := ?_) (a' := ?_) #[true, true, true, true, true, true, true, true, true, true, true, false, false, false] rfl rfl (any_of HT_.out (by kernel_rfl)) (fun _ _ _ h => h) (Or.inl ⟨by rfl, ?_⟩) ?_ ?_
          (rotate_left; intro w'; go_simp; with_reducible rfl; rotate_left; simp only [Act.put, List.setIfInBounds_toArray, List.set_cons_zero, List.set_cons_succ, i64_w, i32_w]; rfl)
          refine one_ (i := 11) (N := none) #[true, true, true, true, true, true, true, true, true, true, true, true, false, false] rfl rfl (one_of HT_.out (by kernel_rfl)) (by decide) (fun K hK => ?_)
          refine skip_ (w1 := w42.setCell ⟨gf, ((rd_T54 l1 x22_1).f0 : Int).toNat, none⟩ (.int .i64 (wrap64 (ji21 + 1)))) (by rfl) rfl (by first | (go_simp; done) | (go_simp; rfl)) ?_
          have ngf_ : gb240 ≠ gf := fun e_ => Kd.R_ne HHF.out HHK.out (by decide) (by rw [e_]; rfl)
          have hk4 : (w42.setCell ⟨gf, ((rd_T54 l1 x22_1).f0 : Int).toNat, none⟩ (.int .i64 (wrap64 (ji21 + 1)))).heap[gb240]? = some (.cells #[.int .i64 ((rd_T54 l1 x22_1).f0), .int .i64 ((rd_T54 l1 x22_1).f1)] 54 (0, 0)) := (Below.heap_setCell w42 ⟨gf, ((rd_T54 l1 x22_1).f0 : Int).toNat, none⟩ _ gb240 ngf_).trans HHK.out
          have hO4 := Kd.S_far (p := ⟨gf, ((rd_T54 l1 x22_1).f0 : Int).toNat, none⟩) HHO.out (fun k_ hk e_ => hk.2.1 (by rw [e_]; rfl)) (.int .i64 (wrap64 (ji21 + 1)))
          have hB4 := Below.setCell HHB.out (p := ⟨gf, ((rd_T54 l1 x22_1).f0 : Int).toNat, none⟩) GFB.out (.int .i64 (wrap64 (ji21 + 1)))
          generalize w42.setCell ⟨gf, ((rd_T54 l1 x22_1).f0 : Int).toNat, none⟩ (.int .i64 (wrap64 (ji21 + 1))) = w43 at HP1 hk4 hO4 hB4 ⊢
          clear HHO HHF HHK HHB hx0_ hf0_ hx1_ hf1_ hHeld
          have HO4 := Aside0.mk hO4
          have HB4 := Aside0.mk hB4
          refine hK.out _ _ ⟨(blk_cell hk4 0).trans rfl, (blk_cell hk4 1).trans rfl⟩ (fun hHeld => ?_)
          clear hK K hk4 hO4 hB4 ngf_
          obtain ⟨hx1_, hf1_⟩ := Kd.R_celln 0 HP1.out ((rd_T54 l1 x22_1).f1) C0.out.2.2.1 C0.out.2.2.2
          have HP2 := Aside0.mk (Kd.R_putn HP1.out ((rd_T54 l1 x22_1).f1) (wrap64 (ji21 + 1)))
          refine pure_ (i := 12) (N := some 65) (v := ?_) (a' := ?_) #[true, true, true, true, true, true, true, true, true, true, true, true, true, false] rfl rfl (any_of HT_.out (by kernel_rfl)) (fun _ _ _ h => h) (Or.inl ⟨by rfl, ?_⟩) ?_ ?_
          (rotate_left; intro w'; go_simp; with_reducible rfl; rotate_left; simp only [Act.put, List.setIfInBounds_toArray, List.set_cons_zero, List.set_cons_succ, i64_w, i32_w]; rfl)
          refine last_ (i := 13) (N := none) #[true, true, true, true, true, true, true, true, true, true, true, true, true, true] rfl rfl (one_of HT_.out (by kernel_rfl)) (by decide) (fun K hK => ?_)
          refine skip_ (w1 := w43.setCell ⟨gf, ((rd_T54 l1 x22_1).f1 : Int).toNat, none⟩ (.int .i64 (wrap64 (ji21 + 1)))) (by rfl) rfl (by first | (go_simp; done) | (go_simp; rfl)) ?_
          refine hK.out _ _ ?_
          clear hK K
          refine done_ (done_of HT_.out (by kernel_rfl)) ?_
          have HO5 := Aside0.mk (Kd.S_far (p := ⟨gf, ((rd_T54 l1 x22_1).f1 : Int).toNat, none⟩) HO4.out (fun k_ hk e_ => hk.2.1 (by rw [e_]; rfl)) (.int .i64 (wrap64 (ji21 + 1))))
          have HB5 := Aside0.mk (Below.setCell HB4.out (p := ⟨gf, ((rd_T54 l1 x22_1).f1 : Int).toNat, none⟩) GFB.out (.int .i64 (wrap64 (ji21 + 1))))
          generalize w43.setCell ⟨gf, ((rd_T54 l1 x22_1).f1 : Int).toNat, none⟩ (.int .i64 (wrap64 (ji21 + 1))) = w44 at HP2 HO5 HB5 ⊢
          clear HO4 HB4 HP1 hx1_ hf1_ hHeld HT_ HW_
          try go_wp2
          go_roundg (gk - 1)
          case measure => have := IX.out; have := CX.out; omega
          case rel => exact ⟨_, _, _, rfl, HL, ⟨by rw [EW.out]; have := IX.out; have := CX.out; omega⟩, ⟨Kd.S_mono HO5.out (fun _ hk => ⟨hk.1, hk.2.1⟩)⟩, HP2, HB5⟩
        · rw [if_neg c22] at hpp
          have c22b0 : ((ji21) == (x6_1.length : Int)) = false := beq_eq_false_iff_ne.mpr c22
          clear c22
          unfold impl_IntoRounds.put at hpp
          by_cases hq : 0 ≤ ji21 ∧ ji21 < (x6_1.length : Int) ∧ (x6_1.getD ji21.toNat []).length < 1048576
          case neg => rw [if_neg hq] at hpp; cases hpp
          rw [if_pos hq] at hpp
          obtain rfl := Option.some.inj hpp
          have PJ := Aside0.mk hq.1
          have QJ := Aside0.mk hq.2.1
          have LJ := Aside0.mk hq.2.2
          clear hpp hq
          obtain ⟨go, co, eo_, gob, gol, clo, hgo⟩ := Kd.S_form HO_6.out (by have := PJ.out; have := QJ.out; omega)
          (first | cases eo_ | (injection eo_ with ea_ en_ ec_; (first | subst ea_ | (injection ea_ with ea_; subst ea_)); subst ec_; clear en_))
          have GOB := Aside0.mk gob
          have NGO : Aside0 (go ≠ gb240) := ⟨((Kd.S_R HO_6.out).1 go rfl).2.2⟩
          have NGF : Aside0 (go ≠ gf) := ⟨fun e_ => ((Kd.S_R HO_6.out).1 go rfl).2.1 (by rw [e_]; rfl)⟩
          have HL : Aside0 (impl_IntoRounds.loop (l1.drop (wrap64 (x22_1 + 1)).toNat) (x6_1.set ji21.toNat (x6_1.getD ji21.toNat [] ++ [rd_T54 l1 x22_1])) ((x7_1.set ((rd_T54 l1 x22_1).f0).toNat (wrap64 (ji21 + 1))).set ((rd_T54 l1 x22_1).f1).toNat (wrap64 (ji21 + 1))) = some fin) := ⟨by rw [EW.out, show (x22_1 + 1).toNat = x22_1.toNat + 1 by have := IX.out; omega]; exact HLn.out⟩
          clear gob gol hgo HLn
          go_wp2
          have HHO := Aside0.mk (Kd.S_drew HO_6.out)
          have HHF := Aside0.mk (Kd.R_drew HO_7.out)
          have HHK := Aside0.mk (blk_drew BK240.out)
          have HHB := Aside0.mk (below_drew1 HB.out)
          clear HO_6 HO_7 BK240 HB
          have HO_6 := HHO
          have HO_7 := HHF
          have BK240 := HHK
          have HB := HHB
          clear HHO HHF HHK HHB
          obtain ⟨vr, oki, hcr, hfr, hRr, hoki, hback, -⟩ := Go.Proofs.Ytgcpbaipdpchfaa.H.S_row HO_6.out (ji21 : Int) PJ.out QJ.out (fun k_ hk => ⟨Nat.le_trans (below_size HB.out) hk, Kd.fresh' (Kd.R_lt HO_7.out) k_ hk, Kd.freshB BK240.out k_ hk⟩)
          obtain ⟨row_, hrow_⟩ : ∃ x_ : List (S54), x_ = x6_1.getD (ji21 : Int).toNat [] := ⟨_, rfl⟩
          rw [← hrow_] at hRr LJ HL
          clear hrow_
          obtain ⟨Ar, cr, rfl⟩ := Kd.R_slice hRr
          have HRr := Aside0.mk hRr
          have HOK := Aside0.mk hoki
          have HBK := Aside0.mk hback
          clear hRr hoki hback
          have pj_ := eq_true PJ.out
          have qj_ := eq_true QJ.out
          refine start_ (n := 11) (S := fun w' => w'.cell? ⟨gb240, 0, none⟩ = some (.int .i64 ((rd_T54 l1 x22_1).f0)) ∧ w'.cell? ⟨gb240, 1, none⟩ = some (.int .i64 ((rd_T54 l1 x22_1).f1)) ∧ w'.cell? ⟨go, (ji21 : Int).toNat, none⟩ = some (.slice Ar row_.length cr)) (ds := [8, 10]) #[false, false, false, false, false, false, false, false, false, false, false] (by kernel_rfl) rfl rfl ⟨(blk_cell BK240.out 0).trans rfl, (blk_cell BK240.out 1).trans rfl, hcr⟩ (fun hHeld => ?_); refine with_tabW impl_IntoRounds.tab10 impl_IntoRounds.bits10 (fun HT_ HW_ => ?_)
          generalize hgw_ : World.drew _ = w33 at HO_6 HO_7 BK240 HB hcr hfr HRr HBK hHeld ⊢
          clear hgw_
          refine pure_ (i := 0) (N := some 44) (v := ?_) (a' := ?_) #[true, false, false, false, false, false, false, false, false, false, false] rfl rfl (any_of HT_.out (by kernel_rfl)) (fun _ _ _ h => h) (Or.inl ⟨by rfl, ?_⟩) ?_ ?_
          (rotate_left; intro w'; go_simp; with_reducible rfl; rotate_left; simp only [Act.put, List.setIfInBounds_toArray, List.set_cons_zero, List.set_cons_succ, i64_w, i32_w]; rfl)
          refine pure_ (i := 1) (N := some 45) (v := ?_) (a' := ?_) #[true, true, false, false, false, false, false, false, false, false, false] rfl rfl (any_of HT_.out (by kernel_rfl)) (fun _ _ _ h => h) (Or.inl ⟨by rfl, ?_⟩) ?_ ?_
          (rotate_left; intro w'; go_simp; with_reducible rfl; rotate_left; simp only [Act.put, List.setIfInBounds_toArray, List.set_cons_zero, List.set_cons_succ, i64_w, i32_w]; rfl)
          refine pure_ (i := 2) (N := some 46) (v := ?_) (a' := ?_) #[true, true, true, false, false, false, false, false, false, false, false] rfl rfl (any_of HT_.out (by kernel_rfl)) (fun _ _ _ h => h) (Or.inl ⟨by rfl, ?_⟩) ?_ ?_
          (rotate_left; intro w'; go_simp; with_reducible rfl; rotate_left; simp only [Act.put, List.setIfInBounds_toArray, List.set_cons_zero, List.set_cons_succ, i64_w, i32_w]; rfl)
          refine pure_ (i := 3) (N := some 47) (v := ?_) (a' := ?_) #[true, true, true, true, false, false, false, false, false, false, false] rfl rfl (any_of HT_.out (by kernel_rfl)) (fun _ _ _ h => h) (Or.inl ⟨by rfl, ?_⟩) ?_ ?_
          (rotate_left; intro w'; go_simp; with_reducible rfl; rotate_left; simp only [Act.put, List.setIfInBounds_toArray, List.set_cons_zero, List.set_cons_succ, i64_w, i32_w]; rfl)
          refine pure_ (i := 4) (N := some 48) (v := ?_) (a' := ?_) #[true, true, true, true, true, false, false, false, false, false, false] rfl rfl (any_of HT_.out (by kernel_rfl)) (fun _ _ _ h => h) (Or.inl ⟨by rfl, ?_⟩) ?_ ?_
          (rotate_left; intro w'; go_simp; with_reducible rfl; rotate_left; simp only [Act.put, List.setIfInBounds_toArray, List.set_cons_zero, List.set_cons_succ, i64_w, i32_w]; rfl)
          refine take_ (i := 5) (N := some 49) (v := ?_) (a' := ?_) #[true, true, true, true, true, true, false, false, false, false, false] rfl rfl (take_ofW HT_.out HW_.out (by kernel_rfl)) (fun _ _ _ h => h) (Or.inl ⟨by rfl, ?_⟩) hHeld ?_ ?_
          (rotate_left; rintro w' ⟨s0, s1, s2⟩; go_simp; with_reducible rfl; rotate_left; simp only [Act.put, List.setIfInBounds_toArray, List.set_cons_zero, List.set_cons_succ, i64_w, i32_w]; rfl)
          refine take_ (i := 6) (N := some 50) (v := ?_) (a' := ?_) #[true, true, true, true, true, true, true, false, false, false, false] rfl rfl (take_ofW HT_.out HW_.out (by kernel_rfl)) (fun _ _ _ h => h) (Or.inl ⟨by rfl, ?_⟩) hHeld ?_ ?_
          (rotate_left; rintro w' ⟨s0, s1, s2⟩; go_simp; with_reducible rfl; rotate_left; simp only [Act.put, List.setIfInBounds_toArray, List.set_cons_zero, List.set_cons_succ, i64_w, i32_w]; rfl)
          refine one_ (i := 7) (N := some 51) #[true, true, true, true, true, true, true, true, false, false, false] rfl rfl (one_of HT_.out (by kernel_rfl)) (by decide) (fun K hK => ?_)
          refine value_ (w1 := w33.alloc (.cells #[.int .i64 ((rd_T54 l1 x22_1).f0), .int .i64 ((rd_T54 l1 x22_1).f1)] 54)) (v := .slice (some ⟨w33.heap.size, 0, none⟩) 1 1) (by rfl) rfl (by first | (go_simp; done) | (go_simp; rfl)) ?_
          refine hK.out _ _ ⟨(blk_cell (blk_alloc BK240.out _) 0).trans rfl, (blk_cell (blk_alloc BK240.out _) 1).trans rfl, Go.Proofs.Ytgcpbaipdpchfaa.H.cell_b (below_alloc (Below.refl _ _) _) hcr⟩ (fun hHeld2 => ?_)
          clear hK K
          refine norm_ (a' := ?_) ?_ ?_
          rotate_left
          · show Act.put _ (some 51) _ = _
            simp only [Act.put, List.setIfInBounds_toArray, List.set_cons_zero, List.set_cons_succ, i64_w, i32_w]
            rfl
          refine last_ (i := 8) (N := some 52) #[true, true, true, true, true, true, true, true, true, false, false] rfl rfl (one_of HT_.out (by kernel_rfl)) (by decide) (fun K hK => ?_)
          refine Kd.R_append_step k54 (w0 := w) w.heap.size (by rfl) (.tmp 49) (.tmp 51) 31 54 (.agg #[.int .i64 0, .int .i64 0]) 16 rfl Try.underlying31 info54 rfl (by decide) (by omega) (.slice Ar row_.length cr) row_ (rd_T54 l1 x22_1) [.int .i64 ((rd_T54 l1 x22_1).f0), .int .i64 ((rd_T54 l1 x22_1).f1)] (fun k_ => oki k_ ∨ w33.heap.size ≤ k_) (fun _ => False) rfl rfl (k54_mk w33 (rd_T54 l1 x22_1)) (fun _ hk => hk.elim) (fun _ hk => .inr hk) (Kd.R_mono HRr.out (fun _ hk => .inl hk)) HB.out (below_size HB.out) (by have := LJ.out; omega) ?_
          intro v1 w34 ho1 hb1 hg1 hat1
          obtain ⟨A1_, c1_, rfl⟩ := Kd.R_slice ho1
          obtain ⟨hcr2, hfr2, hS2⟩ := HBK.out _ _ _ ho1 hg1
          have HO2 := Aside0.mk hS2
          have ng_ : some gb240 ≠ (Value.slice Ar row_.length cr).ownBlock := fun e_ => (HOK.out gb240 (HRr.out.1 gb240 e_.symm)).1.2.2 rfl
          have HK2 := Aside0.mk (blk_grown BK240.out hg1 ng_)
          have HF2 : Aside0 (Kd.R (Kd.int .i64) 3 w34 w.heap.size (fun k_ => w.heap.size ≤ k_) (.slice (some ⟨gf, 0, none⟩) x7_1.length co34) x7_1) := ⟨Kd.R_over' HO_7.out (Kd.R_typed HRr.out) (by decide) hg1⟩
          have HB2 := Aside0.mk hb1
          clear hS2 hb1 hg1 hat1 ho1 HBK HOK HRr HO_6 HO_7 BK240 HB hcr hfr hHeld hHeld2
          refine hK.out _ _ ?_
          clear hK K
          refine norm_ (a' := ?_) ?_ ?_
          rotate_left
          · show Act.put _ (some 52) _ = _
            simp only [Act.put, List.setIfInBounds_toArray, List.set_cons_zero, List.set_cons_succ, i64_w, i32_w]
            rfl
          refine pure_ (i := 9) (N := some 53) (v := ?_) (a' := ?_) #[true, true, true, true, true, true, true, true, true, true, false] rfl rfl (any_of HT_.out (by kernel_rfl)) (fun _ _ _ h => h) (Or.inl ⟨by rfl, ?_⟩) ?_ ?_
          (rotate_left; intro w'; go_simp; with_reducible rfl; rotate_left; simp only [Act.put, List.setIfInBounds_toArray, List.set_cons_zero, List.set_cons_succ, i64_w, i32_w]; rfl)
          refine last_ (i := 10) (N := none) #[true, true, true, true, true, true, true, true, true, true, true] rfl rfl (one_of HT_.out (by kernel_rfl)) (by decide) (fun K hK => ?_)
          refine skip_ (w1 := w34.setCell ⟨go, (ji21 : Int).toNat, none⟩ (.slice A1_ (row_ ++ [rd_T54 l1 x22_1]).length c1_)) (by rfl) rfl (by first | (go_simp; done) | (go_simp; rfl)) ?_
          refine hK.out _ _ ?_
          clear hK K
          refine done_ (done_of HT_.out (by kernel_rfl)) ?_
          clear hcr2 hfr2
          have ngo_ : gb240 ≠ go := fun e_ => NGO.out e_.symm
          have HK3 : Aside0 ((w34.setCell ⟨go, (ji21 : Int).toNat, none⟩ (.slice A1_ (row_ ++ [rd_T54 l1 x22_1]).length c1_)).heap[gb240]? = some (.cells #[.int .i64 ((rd_T54 l1 x22_1).f0), .int .i64 ((rd_T54 l1 x22_1).f1)] 54 (0, 0))) := ⟨(Below.heap_setCell w34 ⟨go, (ji21 : Int).toNat, none⟩ _ gb240 ngo_).trans HK2.out⟩
          have HF3 : Aside0 (Kd.R (Kd.int .i64) 3 (w34.setCell ⟨go, (ji21 : Int).toNat, none⟩ (.slice A1_ (row_ ++ [rd_T54 l1 x22_1]).length c1_)) w.heap.size (fun k_ => w.heap.size ≤ k_) (.slice (some ⟨gf, 0, none⟩) x7_1.length co34) x7_1) := ⟨Kd.R_mono (Kd.R_far (p := ⟨go, (ji21 : Int).toNat, none⟩) (Kd.R_tight rfl HF2.out) (fun k_ hk_ e_ => NGF.out (by have h9 : some k_ = some gf := hk_; injection h9 with h9; rw [← h9]; exact e_.symm)) _) (fun k_ hk_ => by have h9 : some k_ = some gf := hk_; injection h9 with h9; rw [h9]; exact GFB.out)⟩
          have HB3 : Aside0 (Below w.heap.size w (w34.setCell ⟨go, (ji21 : Int).toNat, none⟩ (.slice A1_ (row_ ++ [rd_T54 l1 x22_1]).length c1_))) := ⟨Below.setCell HB2.out (p := ⟨go, (ji21 : Int).toNat, none⟩) GOB.out _⟩
          generalize (w34.setCell ⟨go, (ji21 : Int).toNat, none⟩ (.slice A1_ (row_ ++ [rd_T54 l1 x22_1]).length c1_)) = w35 at HO2 HK3 HF3 HB3 ⊢
          clear HK2 HF2 HB2
          try go_wp2
          have HHO := Aside0.mk (Kd.S_drew HO2.out)
          have HHF := Aside0.mk (Kd.R_drew HF3.out)
          have HHK := Aside0.mk (blk_drew HK3.out)
          have HHB := Aside0.mk (below_drew1 HB3.out)
          clear HO2 HF3 HK3 HB3
          obtain ⟨hx0_, hf0_⟩ := Kd.R_celln 0 HHF.out ((rd_T54 l1 x22_1).f0) C0.out.1 C0.out.2.1
          obtain ⟨hx1_, hf1_⟩ := Kd.R_celln 0 HHF.out ((rd_T54 l1 x22_1).f1) C0.out.2.2.1 C0.out.2.2.2
          have pa_ := eq_true C0.out.1
          have pb_ := eq_true C0.out.2.1
          have pc_ := eq_true C0.out.2.2.1
          have pd_ := eq_true C0.out.2.2.2
          have HP1 := Aside0.mk (Kd.R_putn HHF.out ((rd_T54 l1 x22_1).f0) (wrap64 (ji21 + 1)))
          refine start_ (n := 14) (S := fun w' => w'.cell? ⟨gb240, 0, none⟩ = some (.int .i64 ((rd_T54 l1 x22_1).f0)) ∧ w'.cell? ⟨gb240, 1, none⟩ = some (.int .i64 ((rd_T54 l1 x22_1).f1))) (ds := [13]) #[false, false, false, false, false, false, false, false, false, false, false, false, false, false] (by kernel_rfl) rfl rfl ⟨(blk_cell HHK.out 0).trans rfl, (blk_cell HHK.out 1).trans rfl⟩ (fun hHeld => ?_); refine with_tabW impl_IntoRounds.tab11 impl_IntoRounds.bits11 (fun HT_ HW_ => ?_)
          generalize hgw_ : World.drew _ = w42 at HHO HHF HHK HHB HP1 hx0_ hf0_ hx1_ hf1_ hHeld ⊢
          clear hgw_
          refine pure_ (i := 0) (N := some 54) (v := ?_) (a' := ?_) #[true, false, false, false, false, false, false, false, false, false, false, false, false, false] rfl rfl (any_of HT_.out (by kernel_rfl)) (fun _ _ _ h => h) (Or.inl ⟨by rfl, ?_⟩) ?_ ?_
          (rotate_left; intro w'; go_simp; with_reducible rfl; rotate_left; simp only [Act.put, List.setIfInBounds_toArray, List.set_cons_zero, List.set_cons_succ, i64_w, i32_w]; rfl)
          refine pure_ (i := 1) (N := some 55) (v := ?_) (a' := ?_) #[true, true, false, false, false, false, false, false, false, false, false, false, false, false] rfl rfl (any_of HT_.out (by kernel_rfl)) (fun _ _ _ h => h) (Or.inl ⟨by rfl, ?_⟩) ?_ ?_
          (rotate_left; intro w'; go_simp; with_reducible rfl; rotate_left; simp only [Act.put, List.setIfInBounds_toArray, List.set_cons_zero, List.set_cons_succ, i64_w, i32_w]; rfl)
          refine pure_ (i := 3) (N := some 57) (v := ?_) (a' := ?_) #[true, true, false, true, false, false, false, false, false, false, false, false, false, false] rfl rfl (any_of HT_.out (by kernel_rfl)) (fun _ _ _ h => h) (Or.inl ⟨by rfl, ?_⟩) ?_ ?_
          (rotate_left; intro w'; go_simp; with_reducible rfl; rotate_left; simp only [Act.put, List.setIfInBounds_toArray, List.set_cons_zero, List.set_cons_succ, i64_w, i32_w]; rfl)
          refine pure_ (i := 4) (N := some 58) (v := ?_) (a' := ?_) #[true, true, false, true, true, false, false, false, false, false, false, false, false, false] rfl rfl (any_of HT_.out (by kernel_rfl)) (fun _ _ _ h => h) (Or.inl ⟨by rfl, ?_⟩) ?_ ?_
          (rotate_left; intro w'; go_simp; with_reducible rfl; rotate_left; simp only [Act.put, List.setIfInBounds_toArray, List.set_cons_zero, List.set_cons_succ, i64_w, i32_w]; rfl)
          refine pure_ (i := 6) (N := some 60) (v := ?_) (a' := ?_) #[true, true, false, true, true, false, true, false, false, false, false, false, false, false] rfl rfl (any_of HT_.out (by kernel_rfl)) (fun _ _ _ h => h) (Or.inl ⟨by rfl, ?_⟩) ?_ ?_
          (rotate_left; intro w'; go_simp; with_reducible rfl; rotate_left; simp only [Act.put, List.setIfInBounds_toArray, List.set_cons_zero, List.set_cons_succ, i64_w, i32_w]; rfl)
          refine pure_ (i := 7) (N := some 61) (v := ?_) (a' := ?_) #[true, true, false, true, true, false, true, true, false, false, false, false, false, false] rfl rfl (any_of HT_.out (by kernel_rfl)) (fun _ _ _ h => h) (Or.inl ⟨by rfl, ?_⟩) ?_ ?_
          (rotate_left; intro w'; go_simp; with_reducible rfl; rotate_left; simp only [Act.put, List.setIfInBounds_toArray, List.set_cons_zero, List.set_cons_succ, i64_w, i32_w]; rfl)
          refine pure_ (i := 8) (N := some 62) (v := ?_) (a' := ?_) #[true, true, false, true, true, false, true, true, true, false, false, false, false, false] rfl rfl (any_of HT_.out (by kernel_rfl)) (fun _ _ _ h => h) (Or.inl ⟨by rfl, ?_⟩) ?_ ?_
          (rotate_left; intro w'; go_simp; with_reducible rfl; rotate_left; simp only [Act.put, List.setIfInBounds_toArray, List.set_cons_zero, List.set_cons_succ, i64_w, i32_w]; rfl)
          refine pure_ (i := 9) (N := some 63) (v := ?_) (a' := ?_) #[true, true, false, true, true, false, true, true, true, true, false, false, false, false] rfl rfl (any_of HT_.out (by kernel_rfl)) (fun _ _ _ h => h) (Or.inl ⟨by rfl, ?_⟩) ?_ ?_
          (rotate_left; intro w'; go_simp; with_reducible rfl; rotate_left; simp only [Act.put, List.setIfInBounds_toArray, List.set_cons_zero, List.set_cons_succ, i64_w, i32_w]; rfl)
          refine take_ (i := 2) (N := some 56) (v := ?_) (a' := ?_) #[true, true, true, true, true, false, true, true, true, true, false, false, false, false] rfl rfl (take_ofW HT_.out HW_.out (by kernel_rfl)) (fun _ _ _ h => h) (Or.inl ⟨by rfl, ?_⟩) hHeld ?_ ?_
          (rotate_left; rintro w' ⟨s0, s1⟩; go_simp; with_reducible rfl; rotate_left; simp only [Act.put, List.setIfInBounds_toArray, List.set_cons_zero, List.set_cons_succ, i64_w, i32_w]; rfl)
          refine take_ (i := 5) (N := some 59) (v := ?_) (a' := ?_) #[true, true, true, true, true, true, true, true, true, true, false, false, false, false] rfl rfl (take_ofW HT_.out HW_.out (by kernel_rfl)) (fun _ _ _ h => h) (Or.inl ⟨by rfl, ?_⟩) hHeld ?_ ?_
          (rotate_left; rintro w' ⟨s0, s1⟩; go_simp; with_reducible rfl; rotate_left; simp only [Act.put, List.setIfInBounds_toArray, List.set_cons_zero, List.set_cons_succ, i64_w, i32_w]; rfl)
          refine pure_ (i := 10) (N := some 64) (v := ?_) (a' := ?_) #[true, true, true, true, true, true, true, true, true, true, true, false, false, false] rfl rfl (any_of HT_.out (by kernel_rfl)) (fun _ _ _ h => h) (Or.inl ⟨by rfl, ?_⟩) ?_ ?_
          (rotate_left; intro w'; go_simp; with_reducible rfl; rotate_left; simp only [Act.put, List.setIfInBounds_toArray, List.set_cons_zero, List.set_cons_succ, i64_w, i32_w]; rfl)
          refine one_ (i := 11) (N := none) #[true, true, true, true, true, true, true, true, true, true, true, true, false, false] rfl rfl (one_of HT_.out (by kernel_rfl)) (by decide) (fun K hK => ?_)
          refine skip_ (w1 := w42.setCell ⟨gf, ((rd_T54 l1 x22_1).f0 : Int).toNat, none⟩ (.int .i64 (wrap64 (ji21 + 1)))) (by rfl) rfl (by first | (go_simp; done) | (go_simp; rfl)) ?_
          have ngf_ : gb240 ≠ gf := fun e_ => Kd.R_ne HHF.out HHK.out (by decide) (by rw [e_]; rfl)
          have hk4 : (w42.setCell ⟨gf, ((rd_T54 l1 x22_1).f0 : Int).toNat, none⟩ (.int .i64 (wrap64 (ji21 + 1)))).heap[gb240]? = some (.cells #[.int .i64 ((rd_T54 l1 x22_1).f0), .int .i64 ((rd_T54 l1 x22_1).f1)] 54 (0, 0)) := (Below.heap_setCell w42 ⟨gf, ((rd_T54 l1 x22_1).f0 : Int).toNat, none⟩ _ gb240 ngf_).trans HHK.out
          have hO4 := Kd.S_far (p := ⟨gf, ((rd_T54 l1 x22_1).f0 : Int).toNat, none⟩) HHO.out (fun k_ hk e_ => hk.2.1 (by rw [e_]; rfl)) (.int .i64 (wrap64 (ji21 + 1)))
          have hB4 := Below.setCell HHB.out (p := ⟨gf, ((rd_T54 l1 x22_1).f0 : Int).toNat, none⟩) GFB.out (.int .i64 (wrap64 (ji21 + 1)))
          generalize w42.setCell ⟨gf, ((rd_T54 l1 x22_1).f0 : Int).toNat, none⟩ (.int .i64 (wrap64 (ji21 + 1))) = w43 at HP1 hk4 hO4 hB4 ⊢
          clear HHO HHF HHK HHB hx0_ hf0_ hx1_ hf1_ hHeld
          have HO4 := Aside0.mk hO4
          have HB4 := Aside0.mk hB4
          refine hK.out _ _ ⟨(blk_cell hk4 0).trans rfl, (blk_cell hk4 1).trans rfl⟩ (fun hHeld => ?_)
          clear hK K hk4 hO4 hB4 ngf_
          obtain ⟨hx1_, hf1_⟩ := Kd.R_celln 0 HP1.out ((rd_T54 l1 x22_1).f1) C0.out.2.2.1 C0.out.2.2.2
          have HP2 := Aside0.mk (Kd.R_putn HP1.out ((rd_T54 l1 x22_1).f1) (wrap64 (ji21 + 1)))
          refine pure_ (i := 12) (N := some 65) (v := ?_) (a' := ?_) #[true, true, true, true, true, true, true, true, true, true, true, true, true, false] rfl rfl (any_of HT_.out (by kernel_rfl)) (fun _ _ _ h => h) (Or.inl ⟨by rfl, ?_⟩) ?_ ?_
          (rotate_left; intro w'; go_simp; with_reducible rfl; rotate_left; simp only [Act.put, List.setIfInBounds_toArray, List.set_cons_zero, List.set_cons_succ, i64_w, i32_w]; rfl)
          refine last_ (i := 13) (N := none) #[true, true, true, true, true, true, true, true, true, true, true, true, true, true] rfl rfl (one_of HT_.out (by kernel_rfl)) (by decide) (fun K hK => ?_)
          refine skip_ (w1 := w43.setCell ⟨gf, ((rd_T54 l1 x22_1).f1 : Int).toNat, none⟩ (.int .i64 (wrap64 (ji21 + 1)))) (by rfl) rfl (by first | (go_simp; done) | (go_simp; rfl)) ?_
          refine hK.out _ _ ?_
          clear hK K
          refine done_ (done_of HT_.out (by kernel_rfl)) ?_
          have HO5 := Aside0.mk (Kd.S_far (p := ⟨gf, ((rd_T54 l1 x22_1).f1 : Int).toNat, none⟩) HO4.out (fun k_ hk e_ => hk.2.1 (by rw [e_]; rfl)) (.int .i64 (wrap64 (ji21 + 1))))
          have HB5 := Aside0.mk (Below.setCell HB4.out (p := ⟨gf, ((rd_T54 l1 x22_1).f1 : Int).toNat, none⟩) GFB.out (.int .i64 (wrap64 (ji21 + 1))))
          generalize w43.setCell ⟨gf, ((rd_T54 l1 x22_1).f1 : Int).toNat, none⟩ (.int .i64 (wrap64 (ji21 + 1))) = w44 at HP2 HO5 HB5 ⊢
          clear HO4 HB4 HP1 hx1_ hf1_ hHeld HT_ HW_
          try go_wp2
          go_roundg (gk - 1)
          case measure => have := IX.out; have := CX.out; omega
          case rel => exact ⟨_, _, _, rfl, HL, ⟨by rw [EW.out]; have := IX.out; have := CX.out; omega⟩, ⟨Kd.S_mono HO5.out (fun _ hk => ⟨hk.1, hk.2.1⟩)⟩, HP2, HB5⟩
      · have c14b0 : decide (x22_1 < (l1.length : Int)) = false := decide_eq_false c14
        have hfin : x6_1 = fin := by
          have := HL.out
          rw [List.drop_eq_nil_of_le (by have := IX.out.1; omega), impl_IntoRounds.loop] at this
          exact Option.some.inj this
        subst hfin
        have H := HFin.out
        clear HFin HL c14
        obtain ⟨Ao65, co65, eo65⟩ := Kd.S_slice HO_6.out
        subst eo65
        by_cases c64 : 20 < x6_1.length
        · rw [if_pos c64] at H
          have c64b0 : decide (20 < (x6_1.length : Int)) = true := decide_eq_true (by omega)
          have c64b1 : decide (20 < x6_1.length) = true := decide_eq_true c64
          clear c64
          simp only [Option.some.injEq, Prod.mk.injEq] at H
          obtain ⟨rfl, rfl⟩ := H
          go_wp2
          go_ret2
          exact ⟨_, rfl, Kd.S_nil _ _ _ _ _, HB.out⟩
        · rw [if_neg c64] at H
          have c64b0 : decide (20 < (x6_1.length : Int)) = false := decide_eq_false (by omega)
          have c64b1 : decide (20 < x6_1.length) = false := decide_eq_false c64
          have L20 : Aside0 (x6_1.length ≤ 20) := ⟨by omega⟩
          clear c64
          obtain ⟨ss, hss, h3⟩ := Option.bind_eq_some_iff.1 H
          have h4 := Option.some.inj h3
          simp only [Prod.mk.injEq] at h4
          obtain ⟨rfl, rfl⟩ := h4
          have HSS := Aside0.mk hss
          have HOA := Aside0.mk (Kd.S_mono (ok' := fun k_ => w.heap.size ≤ k_) HO_6.out (fun _ hk => hk.1))
          clear H h3 hss HO_6 HO_7
          go_wp2
          go_loopg [72] x6_1.length (fun kq v72 w' => ∃ (x72 : Int) (o : List (List S54)) (s2 : List (List S54)), v72 = .int .i64 x72 ∧ Aside0 (impl_IntoRounds.sorts (o.drop x72.toNat) = some s2 ∧ o.take x72.toNat ++ s2 = ss ∧ o.length = x6_1.length) ∧ Aside0 (0 ≤ x72 ∧ x72 + (kq : Int) = (x6_1.length : Int)) ∧ Aside0 (Kd.S (Kd.slice 54 k54) 31 w' w.heap.size (fun k_ => (w.heap.size ≤ k_)) (.slice Ao65 x6_1.length co65) o) ∧ Aside0 (Below w.heap.size w w'))
          case atStart => exact ⟨0, x6_1, ss, rfl, ⟨HSS.out, rfl, rfl⟩, ⟨by omega⟩, HOA, HB⟩
          case round =>
            clear HOA HSS HB
            obtain ⟨x72, o, s2, rfl, HS, IY, HO, HB⟩ := hrel
            by_cases c67 : x72 < (x6_1.length : Int)
            · have c67b0 : decide (x72 < (x6_1.length : Int)) = true := decide_eq_true c67
              have c68b0 : decide (0 ≤ x72) = true := decide_eq_true IY.out.1
              have CY := Aside0.mk c67
              have EY : Aside0 (wrap64 (x72 + 1) = x72 + 1) := ⟨by have := L20.out; have := IY.out.1; unfold wrap64; omega⟩
              have hlt : x72.toNat < o.length := by have := IY.out.1; have := HS.out.2.2; omega
              obtain ⟨hs1, hs2, hs3⟩ := HS.out
              have hdd : o.drop x72.toNat = o.getD x72.toNat [] :: o.drop (x72.toNat + 1) := by
                rw [List.drop_eq_getElem_cons hlt, List.getD_eq_getElem?_getD, List.getElem?_eq_getElem hlt]
                rfl
              rw [hdd, impl_IntoRounds.sorts] at hs1
              obtain ⟨s0, hs0, hs4⟩ := Option.bind_eq_some_iff.1 hs1
              obtain ⟨s3, hs5, hs6⟩ := Option.bind_eq_some_iff.1 hs4
              obtain rfl := Option.some.inj hs6
              have HSR := Aside0.mk hs0
              obtain ⟨ga, ca, ea, gab, gal, cla, hga⟩ := Kd.S_form HO.out (by omega)
              (first | cases ea | (injection ea with ea_ en_ ec_; (first | subst ea_ | (injection ea_ with ea_; subst ea_)); subst ec_; clear en_))
              obtain ⟨vr, oki, hcr, hfr, hRr, hoki, -, hback⟩ := Go.Proofs.Ytgcpbaipdpchfaa.H.S_row HO.out x72 IY.out.1 c67 (fun k_ hk => Nat.le_trans (below_size HB.out) hk)
              obtain ⟨row0, hrow0⟩ : ∃ x_ : List (S54), x_ = o.getD x72.toNat [] := ⟨_, rfl⟩
              rw [← hrow0] at hRr HSR
              clear hrow0
              obtain ⟨Ar, cr, rfl⟩ := Kd.R_slice hRr
              have HN : Aside0 (impl_IntoRounds.sorts ((o.set x72.toNat s0).drop (x72.toNat + 1)) = some s3 ∧ (o.set x72.toNat s0).take (x72.toNat + 1) ++ s3 = ss ∧ (o.set x72.toNat s0).length = x6_1.length) := ⟨by
                refine ⟨?_, ?_, by rw [List.length_set]; exact hs3⟩
                · rw [List.drop_set_of_lt (by omega)]; exact hs5
                · rw [← hs2, List.take_set, List.take_succ_eq_append_getElem hlt, List.set_append_right _ _ (by simp; omega)]
                  simp [Nat.min_eq_left (Nat.le_of_lt hlt)]⟩
              have HRr := Aside0.mk hRr
              have HBK := Aside0.mk hback
              have p260 := eq_true IY.out.1
              have q260 := eq_true c67
              clear hs0 hs1 hs2 hs3 hs4 hs5 hs6 hdd hlt HS hoki hRr hback gab gal hga c67 HO
              go_wp2_with (go_at_call 43; refine (impl_Call_43.calls oki (.slice Ar row0.length cr) row0 s0 w _ HB.out HRr.out HSR.out).mono ?_; rintro e w' ⟨rfl, h1_, h2_, h3_⟩; have HNS := Aside0.mk (HBK.out _ _ h1_ h3_); have HNB := Aside0.mk h2_; clear h1_ h2_ h3_)
              go_roundg (gk - 1)
              case measure => have := IY.out; have := CY.out; omega
              case rel => exact ⟨_, _, _, rfl, ⟨by rw [EY.out, show (x72 + 1).toNat = x72.toNat + 1 by have := IY.out; omega]; exact HN.out⟩, ⟨by rw [EY.out]; have := IY.out; have := CY.out; omega⟩, HNS, HNB⟩
            · have c67b0 : decide (x72 < (x6_1.length : Int)) = false := decide_eq_false c67
              have hss : ss = o := by
                obtain ⟨hs1, hs2, hs3⟩ := HS.out
                rw [List.drop_eq_nil_of_le (by have := IY.out.1; omega), impl_IntoRounds.sorts] at hs1
                obtain rfl := Option.some.inj hs1
                rw [← hs2, List.take_of_length_le (by have := IY.out.1; omega), List.append_nil]
              subst hss
              clear c67 HS
              go_wp2
              go_ret2
              exact ⟨_, rfl, Kd.S_mono HO.out (fun _ _ => trivial), HB.out⟩

/-! ### laws_FnExactIntoRounds: OURS: function 4 -/
def laws_FnExactIntoRounds.f (k : Nat) (a0 : Int) (l1 : List S63) : Option Bool := (laws_szCallS.f l1 1048576).bind fun left => if left < 0 then some true else (laws_toCallS.f k l1).bind fun x => ((spec_IntoRounds.f k a0 x).bind fun w => (impl_IntoRounds.f k a0 x).bind fun g => (laws_eqCallSS.f k g.1 w.1).bind fun q => if q = true ∧ g.2 = w.2 then (laws_eqCallS.f k x x).bind fun q2 => if q2 = true then (laws_markCallS.f k x 1).bind fun mx => if 0 ≤ mx.1 then (laws_markCallSS.f k g.1 1).bind fun mg => (laws_heldCallSS.f k mg.2 1).bind fun hq => if 0 ≤ hq ∧ hq = mg.1 then some true else none else none else none else none)
set_option maxHeartbeats 8000000 in
set_option maxRecDepth 100000 in
theorem laws_FnExactIntoRounds.calls (k : Nat) (a0 : Int) (A1 : Option Addr) (c1 : Nat) (l1 : List S63) (r : Bool) (w : World) (hr1 : Kd.C k63 w A1 l1.length l1) (hc1 : l1.length ≤ c1) (h : laws_FnExactIntoRounds.f k a0 l1 = some r) :
    Calls Try.prog 4 #[.int .i64 a0, .slice A1 l1.length c1] w fun e w' => e = .returned (.bool r) ∧ Below w.heap.size w w' := by
  unfold laws_FnExactIntoRounds.f at h
  have hT_ := Option.bind_eq_some_iff.1 h
  clear h
  obtain ⟨left, h1, h⟩ := hT_
  try dsimp only at h
  have HC := Aside0.mk hr1
  have HC1 := Aside0.mk hc1
  have hz := laws_szCallS.calls A1 c1 l1 1048576 left w hr1 hc1 (by first | exact h1)
  clear hr1 hc1 h1
  by_cases hl : left < 0
  · rw [if_pos hl] at h
    obtain rfl := Option.some.inj h
    clear h
    have hl1 : decide (left < 0) = true := decide_eq_true hl
    go_enter Try.func4, Try.ntmps4
    go_wp2_with fail
    refine hz.mono ?_
    rintro e w1 ⟨rfl, hb1⟩
    have hb1 := Aside0.mk hb1
    go_wp2_with fail
    go_ret
    exact ⟨rfl, by first | exact hb1.out | exact hb1.out.below⟩
  rw [if_neg hl] at h
  have hl1 : decide (left < 0) = false := decide_eq_false hl
  have hT_ := Option.bind_eq_some_iff.1 h
  clear h
  obtain ⟨x, h2, h⟩ := hT_
  try dsimp only at h
  have hT_ := Option.bind_eq_some_iff.1 h
  clear h
  obtain ⟨⟨w_, wq⟩, h3, h⟩ := hT_
  try dsimp only at h
  have hT_ := Option.bind_eq_some_iff.1 h
  clear h
  obtain ⟨⟨g_, gq⟩, h4, h⟩ := hT_
  try dsimp only at h
  have hT_ := Option.bind_eq_some_iff.1 h
  clear h
  obtain ⟨q, h5, h⟩ := hT_
  try dsimp only at h
  by_cases hq : q = true ∧ gq = wq
  case neg => rw [if_neg hq] at h; cases h
  rw [if_pos hq] at h
  obtain ⟨rfl, rfl⟩ := hq
  have hT_ := Option.bind_eq_some_iff.1 h
  clear h
  obtain ⟨q2, h6, h⟩ := hT_
  try dsimp only at h
  by_cases hq2 : q2 = true
  case neg => rw [if_neg hq2] at h; cases h
  rw [if_pos hq2] at h
  subst hq2
  have hT_ := Option.bind_eq_some_iff.1 h
  clear h
  obtain ⟨⟨mx, xm⟩, h7, h⟩ := hT_
  try dsimp only at h
  by_cases hm : 0 ≤ mx
  case neg => rw [if_neg hm] at h; cases h
  rw [if_pos hm] at h
  have hT_ := Option.bind_eq_some_iff.1 h
  clear h
  obtain ⟨⟨mg, gm⟩, h8, h⟩ := hT_
  try dsimp only at h
  have hT_ := Option.bind_eq_some_iff.1 h
  clear h
  obtain ⟨hh, h9, h⟩ := hT_
  try dsimp only at h
  by_cases hh2 : 0 ≤ hh ∧ hh = mg
  case neg => rw [if_neg hh2] at h; cases h
  rw [if_pos hh2] at h
  obtain ⟨hm0, rfl⟩ := hh2
  obtain rfl := Option.some.inj h
  clear h
  try dsimp only at h2
  have H2 := Aside0.mk h2
  clear h2
  try dsimp only at h3
  have H3 := Aside0.mk h3
  clear h3
  try dsimp only at h4
  have H4 := Aside0.mk h4
  clear h4
  try dsimp only at h5
  have H5 := Aside0.mk h5
  clear h5
  try dsimp only at h6
  have H6 := Aside0.mk h6
  clear h6
  try dsimp only at h7
  have H7 := Aside0.mk h7
  clear h7
  try dsimp only at h8
  have H8 := Aside0.mk h8
  clear h8
  try dsimp only at h9
  have H9 := Aside0.mk h9
  clear h9
  have hm1 : decide (hh < 0) = false := decide_eq_false (by omega)
  have hm2 : (hh != hh) = false := bne_self_eq_false hh
  have hg2 : (gq != gq) = false := bne_self_eq_false gq
  have hx1 : decide (mx < 0) = false := decide_eq_false (by omega)
  clear hl hm
  have HZ := Aside0.mk hz
  clear hz
  clear hm0
  go_enter Try.func4, Try.ntmps4
  have b0 := Aside0.mk (Below.refl w.heap.size w)
  go_wp2_with fail
  refine (HZ.out).mono ?_
  rintro e w1 ⟨rfl, hb_⟩
  have hb_w1 : Below w.heap.size w w1 := by first | exact hb_ | exact hb_.below
  clear hb_
  have c_w_w1 := Aside0.mk (below_step (b0.out) hb_w1)
  have hbb_w1 := Aside0.mk hb_w1
  clear hb_w1
  go_wp2_with fail
  refine (laws_toCallS.calls k A1 c1 l1 x _ (Kd.C_below HC.out (c_w_w1.out)) HC1.out H2.out).mono ?_
  rintro e w2 ⟨v_, rfl, ho_, hb_⟩
  have hb_w2 : Below w1.heap.size w1 w2 := by first | exact hb_ | exact hb_.below
  clear hb_
  have c_w_w2 := Aside0.mk (below_step (c_w_w1.out) hb_w2)
  have hbb_w2 := Aside0.mk hb_w2
  clear hb_w2
  obtain ⟨AA, cA, rfl⟩ := Kd.R_slice ho_
  have HOA := Aside0.mk ho_
  clear ho_
  go_wp2_with fail
  refine (spec_IntoRounds.calls k a0 AA cA x _ _ _ (Kd.R_reads' (Kd.R_below HOA.out ((Below.refl _ _)))).2.2 (Kd.R_reads' HOA.out).2.1 H3.out).mono ?_
  rintro e w3 ⟨v_, rfl, ho_, hb_⟩
  have hb_w3 : Below w2.heap.size w2 w3 := by first | exact hb_ | exact hb_.below
  clear hb_
  have c_w_w3 := Aside0.mk (below_step (c_w_w2.out) hb_w3)
  have c_w2_w3 := Aside0.mk (below_step ((Below.refl _ _)) hb_w3)
  have hbb_w3 := Aside0.mk hb_w3
  clear hb_w3
  obtain ⟨AW, cW, rfl⟩ := Kd.N_slice ho_
  have HOW := Aside0.mk ho_
  clear ho_
  go_wp2_with fail
  refine (laws_toCallS.calls k A1 c1 l1 x _ (Kd.C_below HC.out (c_w_w3.out)) HC1.out H2.out).mono ?_
  rintro e w4 ⟨v_, rfl, ho_, hb_⟩
  have hb_w4 : Below w3.heap.size w3 w4 := by first | exact hb_ | exact hb_.below
  clear hb_
  have c_w_w4 := Aside0.mk (below_step (c_w_w3.out) hb_w4)
  have c_w3_w4 := Aside0.mk (below_step ((Below.refl _ _)) hb_w4)
  have hbb_w4 := Aside0.mk hb_w4
  clear hb_w4
  obtain ⟨AX, cX, rfl⟩ := Kd.R_slice ho_
  have HOX := Aside0.mk ho_
  clear ho_
  go_wp2_with fail
  refine (impl_IntoRounds.calls k a0 AX cX x _ _ _ (Kd.R_reads' (Kd.R_below HOX.out ((Below.refl _ _)))).2.2 (Kd.R_reads' HOX.out).2.1 H4.out).mono ?_
  rintro e w5 ⟨v_, rfl, ho_, hb_⟩
  have hb_w5 : Below w4.heap.size w4 w5 := by first | exact hb_ | exact hb_.below
  clear hb_
  have c_w_w5 := Aside0.mk (below_step (c_w_w4.out) hb_w5)
  have c_w3_w5 := Aside0.mk (below_step (c_w3_w4.out) hb_w5)
  have c_w4_w5 := Aside0.mk (below_step ((Below.refl _ _)) hb_w5)
  have hbb_w5 := Aside0.mk hb_w5
  clear hb_w5
  obtain ⟨AG, cG, rfl⟩ := Kd.S_slice ho_
  have HOG := Aside0.mk ho_
  clear ho_
  go_wp2_with fail
  refine (laws_eqCallSS.calls k AG cG g_ AW cW w_ true _ (Kd.S_reads' (Kd.S_below HOG.out ((Below.refl _ _)))).2.2 (Kd.S_reads' HOG.out).2.1 (Kd.N_reads' (Kd.N_below HOW.out (c_w3_w5.out))).2.2 (Kd.N_reads' HOW.out).2.1 H5.out).mono ?_
  rintro e w6 ⟨rfl, hb_⟩
  have hb_w6 : Below w5.heap.size w5 w6 := by first | exact hb_ | exact hb_.below
  clear hb_
  have c_w_w6 := Aside0.mk (below_step (c_w_w5.out) hb_w6)
  have c_w3_w6 := Aside0.mk (below_step (c_w3_w5.out) hb_w6)
  have c_w4_w6 := Aside0.mk (below_step (c_w4_w5.out) hb_w6)
  have c_w5_w6 := Aside0.mk (below_step ((Below.refl _ _)) hb_w6)
  have hbb_w6 := Aside0.mk hb_w6
  clear hb_w6
  go_wp2_with fail
  refine (laws_toCallS.calls k A1 c1 l1 x _ (Kd.C_below HC.out (c_w_w6.out)) HC1.out H2.out).mono ?_
  rintro e w7 ⟨v_, rfl, ho_, hb_⟩
  have hb_w7 : Below w6.heap.size w6 w7 := by first | exact hb_ | exact hb_.below
  clear hb_
  have c_w_w7 := Aside0.mk (below_step (c_w_w6.out) hb_w7)
  have c_w3_w7 := Aside0.mk (below_step (c_w3_w6.out) hb_w7)
  have c_w4_w7 := Aside0.mk (below_step (c_w4_w6.out) hb_w7)
  have c_w5_w7 := Aside0.mk (below_step (c_w5_w6.out) hb_w7)
  have hbb_w7 := Aside0.mk hb_w7
  clear hb_w7
  obtain ⟨AY, cY, rfl⟩ := Kd.R_slice ho_
  have HOY := Aside0.mk ho_
  clear ho_
  go_wp2_with fail
  refine (laws_eqCallS.calls k AX cX x AY cY x true _ (Kd.R_reads' (Kd.R_below HOX.out (c_w4_w7.out))).2.2 (Kd.R_reads' HOX.out).2.1 (Kd.R_reads' (Kd.R_below HOY.out ((Below.refl _ _)))).2.2 (Kd.R_reads' HOY.out).2.1 H6.out).mono ?_
  rintro e w8 ⟨rfl, hb_⟩
  have hb_w8 : Below w7.heap.size w7 w8 := by first | exact hb_ | exact hb_.below
  clear hb_
  have c_w_w8 := Aside0.mk (below_step (c_w_w7.out) hb_w8)
  have c_w3_w8 := Aside0.mk (below_step (c_w3_w7.out) hb_w8)
  have c_w4_w8 := Aside0.mk (below_step (c_w4_w7.out) hb_w8)
  have c_w5_w8 := Aside0.mk (below_step (c_w5_w7.out) hb_w8)
  have c_w7_w8 := Aside0.mk (below_step ((Below.refl _ _)) hb_w8)
  have hbb_w8 := Aside0.mk hb_w8
  clear hb_w8
  have HX8 := Aside0.mk (Kd.R_below (Kd.R_bound HOX.out) (c_w4_w8.out))
  have HG8 := Aside0.mk (Kd.S_below (Kd.S_bound HOG.out) (c_w5_w8.out))
  have hle_ : w4.heap.size ≤ w5.heap.size := (hbb_w5.out).size
  go_wp2_with fail
  refine (laws_markCallS.calls k _ _ x 1 mx xm w3 _ (c_w3_w8.out) HX8.out H7.out).mono ?_
  rintro e w9 ⟨rfl, hx_, hb_, hk_⟩
  have c_w3_w9 := Aside0.mk hb_
  have c_w_w9 := Aside0.mk (below_step c_w_w3.out hb_)
  have HO9 := Aside0.mk (Kd.S_kept HG8.out hk_ (fun k_ hk hs => by have := hk.2.1; have := hs.2.2.1; omega))
  clear hx_ hb_ hk_ hle_
  have HO9G := HO9
  obtain HOGG := HO9
  go_wp2_with fail
  refine (laws_eqCallSS.calls k AG cG g_ AW cW w_ true _ (Kd.S_reads' (Kd.S_below HO9.out ((Below.refl _ _)))).2.2 (Kd.S_reads' HO9.out).2.1 (Kd.N_reads' (Kd.N_below HOW.out (c_w3_w9.out))).2.2 (Kd.N_reads' HOW.out).2.1 H5.out).mono ?_
  rintro e w10 ⟨rfl, hb_⟩
  have hb_w10 : Below w9.heap.size w9 w10 := by first | exact hb_ | exact hb_.below
  clear hb_
  have c_w_w10 := Aside0.mk (below_step (c_w_w9.out) hb_w10)
  have c_w3_w10 := Aside0.mk (below_step (c_w3_w9.out) hb_w10)
  have c_w9_w10 := Aside0.mk (below_step ((Below.refl _ _)) hb_w10)
  have hbb_w10 := Aside0.mk hb_w10
  clear hb_w10
  have HGm := Aside0.mk (Kd.S_lower (Kd.S_below HO9.out (c_w9_w10.out)) (base' := w3.heap.size) ((hbb_w4.out).size))
  go_wp2_with fail
  refine (laws_markCallSS.calls k _ _ g_ 1 hh gm w3 _ (c_w3_w10.out) HGm.out H8.out).mono ?_
  rintro e w11 ⟨rfl, hx_, hb_, hk_⟩
  have HOM := Aside0.mk hx_
  have c_w3_w11 := Aside0.mk hb_
  have c_w_w11 := Aside0.mk (below_step c_w_w3.out hb_)
  clear hx_ hb_ hk_
  have hlm : gm.length = g_.length := (Kd.S_reads' HOM.out).1.symm
  have HLM := Aside0.mk hlm
  clear hlm
  have hH_ := laws_heldCallSS.calls k AG cG gm 1 hh w11 ((Kd.S_reads' (Kd.S_below HOM.out ((Below.refl _ _)))).2.2) (by rw [HLM.out]; exact (Kd.S_reads' HOM.out).2.1) H9.out
  rw [HLM.out] at hH_
  go_wp2_with fail
  refine (hH_).mono ?_
  rintro e w12 ⟨rfl, hb_⟩
  have hb_w12 : Below w11.heap.size w11 w12 := by first | exact hb_ | exact hb_.below
  clear hb_
  have c_w_w12 := Aside0.mk (below_step (c_w_w11.out) hb_w12)
  have c_w3_w12 := Aside0.mk (below_step (c_w3_w11.out) hb_w12)
  have c_w11_w12 := Aside0.mk (below_step ((Below.refl _ _)) hb_w12)
  have hbb_w12 := Aside0.mk hb_w12
  clear hb_w12
  clear hH_
  go_wp2_with fail
  refine (laws_toCallS.calls k A1 c1 l1 x _ (Kd.C_below HC.out (c_w_w12.out)) HC1.out H2.out).mono ?_
  rintro e w13 ⟨v_, rfl, ho_, hb_⟩
  have hb_w13 : Below w12.heap.size w12 w13 := by first | exact hb_ | exact hb_.below
  clear hb_
  have c_w_w13 := Aside0.mk (below_step (c_w_w12.out) hb_w13)
  have c_w3_w13 := Aside0.mk (below_step (c_w3_w12.out) hb_w13)
  have c_w11_w13 := Aside0.mk (below_step (c_w11_w12.out) hb_w13)
  have hbb_w13 := Aside0.mk hb_w13
  clear hb_w13
  obtain ⟨AZ, cZ, rfl⟩ := Kd.R_slice ho_
  have HOZ := Aside0.mk ho_
  clear ho_
  go_wp2_with fail
  refine (impl_IntoRounds.calls k a0 AZ cZ x _ _ _ (Kd.R_reads' (Kd.R_below HOZ.out ((Below.refl _ _)))).2.2 (Kd.R_reads' HOZ.out).2.1 H4.out).mono ?_
  rintro e w14 ⟨v_, rfl, ho_, hb_⟩
  have hb_w14 : Below w13.heap.size w13 w14 := by first | exact hb_ | exact hb_.below
  clear hb_
  have c_w_w14 := Aside0.mk (below_step (c_w_w13.out) hb_w14)
  have c_w3_w14 := Aside0.mk (below_step (c_w3_w13.out) hb_w14)
  have c_w11_w14 := Aside0.mk (below_step (c_w11_w13.out) hb_w14)
  have c_w13_w14 := Aside0.mk (below_step ((Below.refl _ _)) hb_w14)
  have hbb_w14 := Aside0.mk hb_w14
  clear hb_w14
  obtain ⟨AH, cH, rfl⟩ := Kd.S_slice ho_
  have HOH := Aside0.mk ho_
  clear ho_
  go_wp2_with fail
  refine (laws_eqCallSS.calls k AH cH g_ AW cW w_ true _ (Kd.S_reads' (Kd.S_below HOH.out ((Below.refl _ _)))).2.2 (Kd.S_reads' HOH.out).2.1 (Kd.N_reads' (Kd.N_below HOW.out (c_w3_w14.out))).2.2 (Kd.N_reads' HOW.out).2.1 H5.out).mono ?_
  rintro e w15 ⟨rfl, hb_⟩
  have hb_w15 : Below w14.heap.size w14 w15 := by first | exact hb_ | exact hb_.below
  clear hb_
  have c_w_w15 := Aside0.mk (below_step (c_w_w14.out) hb_w15)
  have c_w3_w15 := Aside0.mk (below_step (c_w3_w14.out) hb_w15)
  have c_w11_w15 := Aside0.mk (below_step (c_w11_w14.out) hb_w15)
  have c_w13_w15 := Aside0.mk (below_step (c_w13_w14.out) hb_w15)
  have c_w14_w15 := Aside0.mk (below_step ((Below.refl _ _)) hb_w15)
  have hbb_w15 := Aside0.mk hb_w15
  clear hb_w15
  have hH_ := laws_heldCallSS.calls k AG cG gm 1 hh w15 ((Kd.S_reads' (Kd.S_below HOM.out (c_w11_w15.out))).2.2) (by rw [HLM.out]; exact (Kd.S_reads' HOM.out).2.1) H9.out
  rw [HLM.out] at hH_
  go_wp2_with fail
  refine (hH_).mono ?_
  rintro e w16 ⟨rfl, hb_⟩
  have hb_w16 : Below w15.heap.size w15 w16 := by first | exact hb_ | exact hb_.below
  clear hb_
  have c_w_w16 := Aside0.mk (below_step (c_w_w15.out) hb_w16)
  have c_w3_w16 := Aside0.mk (below_step (c_w3_w15.out) hb_w16)
  have c_w11_w16 := Aside0.mk (below_step (c_w11_w15.out) hb_w16)
  have c_w13_w16 := Aside0.mk (below_step (c_w13_w15.out) hb_w16)
  have c_w14_w16 := Aside0.mk (below_step (c_w14_w15.out) hb_w16)
  have hbb_w16 := Aside0.mk hb_w16
  clear hb_w16
  clear hH_
  go_wp2_with fail
  go_ret
  exact ⟨rfl, c_w_w16.out⟩


end Go.Proofs.Ytgcpbaipdpchfaa.PFnExactIntoRounds
