-- Written by the session's mkprint.py over the kit's print.py (function texts marked OURS are the session's own).
import Derived.Test.YtelhjfalkhmhkaaPFnExactSilentGroupsx0
import Derived.Test.YtelhjfalkhmhkaaHContLetter
namespace Go.Proofs.Ytelhjfalkhmhkaa.PFnExactSilentGroups
open Go.RowKit Go.Proofs.YtelhjfalkhmhkaaW.PrintWords Go.Proofs.YtelhjfalkhmhkaaW.PrintLast Go.Proofs.YtelhjfalkhmhkaaW.PrintMore
attribute [local go_sem] max2_int min2_int max_two min_two max_three min_three max_four min_four   -- for this text's walks alone
set_option linter.unusedVariables false
set_option linter.unusedSimpArgs false

/-! ### impl_within: function 55 -/
def impl_within.f (a0 : Int) (a1 : Int) (a2 : Int) : Option (Bool) := if a1 ≤ a0 then (some (decide (a0 ≤ a2))) else (some false)
set_option maxHeartbeats 8000000 in
set_option maxRecDepth 100000 in
theorem impl_within.calls (a0 : Int) (a1 : Int) (a2 : Int) (r : Bool) (w : World) (h : impl_within.f a0 a1 a2 = some r) :
    Calls Try.prog 55 #[.int .i64 a0, .int .i64 a1, .int .i64 a2] w fun e w' => e = .returned (.bool r) ∧ Drawn0 w w' := by
  have H : (if a1 ≤ a0 then (some (decide (a0 ≤ a2))) else (some false)) = some r := h
  clear h
  by_cases c4 : a1 ≤ a0
  · rw [if_pos c4] at H
    have c4b0 : decide (a1 ≤ a0) = true := decide_eq_true c4
    clear c4
    obtain rfl := Option.some.inj H
    go_enter Try.func55, Try.ntmps55
    go_wp2
    go_ret
    exact ⟨by first | rfl | (simp; done) | (simp [*]; done), by repeat (first | exact Drawn0.refl _ | apply Drawn0.step)⟩
  · rw [if_neg c4] at H
    have c4b0 : decide (a1 ≤ a0) = false := decide_eq_false c4
    clear c4
    obtain rfl := Option.some.inj H
    go_enter Try.func55, Try.ntmps55
    go_wp2
    go_ret
    exact ⟨by first | rfl | (simp; done) | (simp [*]; done), by repeat (first | exact Drawn0.refl _ | apply Drawn0.step)⟩

/-! ### impl_areFriends: function 49 -/
def impl_areFriends.f (a0 : Int) : Option (Bool) := (impl_within.f a0 1 10).bind fun t169 => (some t169)
set_option maxHeartbeats 8000000 in
set_option maxRecDepth 100000 in
theorem impl_areFriends.calls (a0 : Int) (r : Bool) (w : World) (h : impl_areFriends.f a0 = some r) :
    Calls Try.prog 49 #[.int .i64 a0] w fun e w' => e = .returned (.bool r) ∧ Drawn0 w w' := by
  have H : ((impl_within.f a0 1 10).bind fun t169 => (some t169)) = some r := h
  clear h
  replace H := Option.bind_eq_some_iff.mp H
  obtain ⟨t169, A20, H⟩ := H
  replace H : (some t169) = some r := H
  have A2 := Aside0.mk A20
  clear A20
  obtain rfl := Option.some.inj H
  go_enter Try.func49, Try.ntmps49
  go_wp2_with (first | ((with_reducible refine gate_callee (f := 55) rfl ?_); refine goesL_ (some 4) rfl rfl Try.func55 (by kernel_rfl) rfl #[.int .i64 a0, .int .i64 1, .int .i64 10] rfl (by (try simp only [List.map_toArray, List.map_cons, List.map_nil]); first | done | rfl | (simp only [List.length_drop, List.length_take]; rfl)) ?_; (with_reducible refine (impl_within.calls a0 1 10 t169 _ A2.out).mono ?_); rintro e w' ⟨rfl, ⟨nd, rfl⟩⟩; refine ⟨_, rfl, ?_⟩))
  go_ret
  exact ⟨by first | rfl | (simp; done) | (simp [*]; done), by repeat (first | exact Drawn0.refl _ | apply Drawn0.step)⟩

/-! ### impl_isFriend: function 50 -/
def impl_isFriend.f (a0 : Int) (a1 : Int) : Option (Bool) := (impl_within.f a1 0 (wrap64 (a0 - 1))).bind fun t170 => (some t170)
set_option maxHeartbeats 8000000 in
set_option maxRecDepth 100000 in
theorem impl_isFriend.calls (a0 : Int) (a1 : Int) (r : Bool) (w : World) (h : impl_isFriend.f a0 a1 = some r) :
    Calls Try.prog 50 #[.int .i64 a0, .int .i64 a1] w fun e w' => e = .returned (.bool r) ∧ Drawn0 w w' := by
  have H : ((impl_within.f a1 0 (wrap64 (a0 - 1))).bind fun t170 => (some t170)) = some r := h
  clear h
  replace H := Option.bind_eq_some_iff.mp H
  obtain ⟨t170, A30, H⟩ := H
  replace H : (some t170) = some r := H
  have A3 := Aside0.mk A30
  clear A30
  obtain rfl := Option.some.inj H
  go_enter Try.func50, Try.ntmps50
  go_wp2_with (first | ((with_reducible refine gate_callee (f := 55) rfl ?_); refine goesL_ (some 8) rfl rfl Try.func55 (by kernel_rfl) rfl #[.int .i64 a1, .int .i64 0, .int .i64 (wrap64 (a0 - 1))] rfl (by (try simp only [List.map_toArray, List.map_cons, List.map_nil]); first | done | rfl | (simp only [List.length_drop, List.length_take]; rfl)) ?_; (with_reducible refine (impl_within.calls a1 0 (wrap64 (a0 - 1)) t170 _ A3.out).mono ?_); rintro e w' ⟨rfl, ⟨nd, rfl⟩⟩; refine ⟨_, rfl, ?_⟩))
  go_ret
  exact ⟨by first | rfl | (simp; done) | (simp [*]; done), by repeat (first | exact Drawn0.refl _ | apply Drawn0.step)⟩

/-! ### impl_AreLetters: OURS: function 67 -/
def isLetterB (n a b : Int) : Bool := (decide (0 ≤ a) && decide (a < n)) && ((decide (0 ≤ b) && decide (b < n)) && !(a == b))
def areLettersB (n : Int) (l : List S75) : Bool := decide (1 ≤ n) && (decide (n ≤ 10) && (decide (l.length ≤ 60) && l.all fun c => isLetterB n c.f0 c.f1))
theorem areFriendsL_f (n : Int) : impl_areFriends.f n = some (decide (1 ≤ n) && decide (n ≤ 10)) := by
  unfold impl_areFriends.f impl_within.f
  by_cases h1 : 1 ≤ n <;> by_cases h2 : n ≤ 10 <;> simp [h1, h2]
theorem isFriendL_f (n a : Int) (h1 : 1 ≤ n) (h2 : n ≤ 10) : impl_isFriend.f n a = some (decide (0 ≤ a) && decide (a < n)) := by
  unfold impl_isFriend.f impl_within.f
  have e : wrap64 (n - 1) = n - 1 := by unfold wrap64; omega
  rw [e]
  by_cases g1 : 0 ≤ a <;> by_cases g2 : a < n
  · have : a ≤ n - 1 := by omega
    simp [g1, g2, this]
  · have : ¬ a ≤ n - 1 := by omega
    simp [g1, g2, this]
  · simp [g1]
  · simp [g1]
instance : Inhabited S75 := ⟨z75⟩
set_option maxHeartbeats 1000000 in
set_option maxRecDepth 100000 in
theorem areLetters_lit (n : Int) (h1 : 1 ≤ n) (h2 : n ≤ 10) (g : Nat) (w : World) (hg : w.heap[g]? = some (.cells #[.int .i64 n] 3 (0, 0))) :
    Go.Proofs.Ytelhjfalkhmhkaa.H.PredLetter 105 #[.pointer (some ⟨g, 0, none⟩)] S75.f0 S75.f1 (fun c => !isLetterB n c.f0 c.f1) w := by
  rintro W ⟨a, b⟩ hb
  have hc0 : W.cell? ⟨g, 0, none⟩ = some (.int .i64 n) := by
    have h1 : w.cell? ⟨g, 0, none⟩ = some (.int .i64 n) := (blk_cell hg 0).trans rfl
    exact Go.Proofs.Ytelhjfalkhmhkaa.H.cell_b hb h1
  have hc1 : ∀ o, (W.alloc o).cell? ⟨g, 0, none⟩ = some (.int .i64 n) := fun o => Go.Proofs.Ytelhjfalkhmhkaa.H.cell_b (below_alloc (Below.refl _ _) o) hc0
  clear hc0
  have hB := Aside0.mk hb
  clear hb hg
  show Calls _ _ #[.agg #[.int .i64 a, .int .i64 b], .pointer (some ⟨g, 0, none⟩)] W fun e w' => e = .returned (.bool (!isLetterB n a b)) ∧ Below w.heap.size w w'
  have ca := fun W2 => impl_isFriend.calls n a _ W2 (isFriendL_f n a h1 h2)
  have cb := fun W2 => impl_isFriend.calls n b _ W2 (isFriendL_f n b h1 h2)
  have hu := Try.underlying75
  unfold isLetterB
  generalize (decide (0 ≤ a) && decide (a < n)) = qa at ca ⊢
  generalize (decide (0 ≤ b) && decide (b < n)) = qb at cb ⊢
  cases qa with
  | false =>
    go_enter Try.func105, Try.ntmps105
    go_wp2_with (go_at_call 50; refine (ca _).mono ?_; rintro e w' ⟨rfl, ⟨nd, rfl⟩⟩)
    go_ret
    exact ⟨rfl, pw_below_drewN (below_alloc hB.out _) _⟩
  | true =>
    cases qb with
    | false =>
      go_enter Try.func105, Try.ntmps105
      go_wp2_with (go_at_call 50; first | (with_reducible refine (ca _).mono ?_; rintro e w' ⟨rfl, ⟨nd, rfl⟩⟩) | (with_reducible refine (cb _).mono ?_; rintro e w' ⟨rfl, ⟨nd2, rfl⟩⟩))
      go_ret
      exact ⟨rfl, by repeat (first | exact hB.out | apply pw_below_drewN | apply below_alloc)⟩
    | true =>
      by_cases hab : a = b
      all_goals
        have hq : (a == b) = decide (a = b) := by simp [hab]
        go_enter Try.func105, Try.ntmps105
        go_wp2_with (go_at_call 50; first | (with_reducible refine (ca _).mono ?_; rintro e w' ⟨rfl, ⟨nd, rfl⟩⟩) | (with_reducible refine (cb _).mono ?_; rintro e w' ⟨rfl, ⟨nd2, rfl⟩⟩))
        go_ret
        exact ⟨by simp [hab], by repeat (first | exact hB.out | apply pw_below_drewN | apply below_alloc)⟩

def impl_AreLetters.f (a0 : Int) (l1 : List S75) : Option Bool := some (areLettersB a0 l1)
set_option maxHeartbeats 1000000 in
set_option maxRecDepth 100000 in
theorem impl_AreLetters.calls (a0 : Int) (A1 : Option Addr) (c1 : Nat) (l1 : List S75) (r : Bool) (w : World) (hr1 : Kd.C k75 w A1 l1.length l1) (hc1 : l1.length ≤ c1) (h : impl_AreLetters.f a0 l1 = some r) :
    Calls Try.prog 67 #[.int .i64 a0, .slice A1 l1.length c1] w fun e w' => e = .returned (.bool r) ∧ Below w.heap.size w w' := by
  obtain rfl := Option.some.inj h
  have hmax : (l1.length : Int) ≤ 9223372036854775807 := by have := Kd.C_max hr1; omega
  have hF := fun W2 => impl_areFriends.calls a0 _ W2 (areFriendsL_f a0)
  by_cases h1 : 1 ≤ a0 ∧ a0 ≤ 10
  · have e1 : (decide (1 ≤ a0) && decide (a0 ≤ 10)) = true := by simp [h1]
    rw [e1] at hF
    by_cases h2 : (l1.length : Int) ≤ 60
    · have hA : areLettersB a0 l1 = !(l1.any fun c => !isLetterB a0 c.f0 c.f1) := by
        have h2' : l1.length ≤ 60 := by omega
        simp [areLettersB, h1, h2', List.all_eq_not_any_not]
      rw [hA]
      have hlit := areLetters_lit a0 h1.1 h1.2 w.heap.size
      have HR := Aside0.mk hr1
      clear hr1 hA
      have eg := enters_of Try.func105 (by kernel_rfl) rfl
      have hcont := fun W2 hx hy => Go.Proofs.Ytelhjfalkhmhkaa.H.containsFuncLetter (d := k75) (fa := S75.f0) (fb := S75.f1) rfl (fun _ _ _ h => k75_open h) (fun c => !isLetterB a0 c.f0 c.f1) 105 #[.pointer (some ⟨w.heap.size, 0, none⟩)] eg A1 c1 l1 W2 hx (hlit W2 hy)
      clear hlit
      generalize (l1.any fun c => !isLetterB a0 c.f0 c.f1) = q at hcont ⊢
      have HCO := Aside0.mk hcont
      clear hcont
      go_enter Try.func67, Try.ntmps67
      go_wp2_with (first | (go_at_call 49; refine (hF _).mono ?_; rintro e w' ⟨rfl, ⟨nd, rfl⟩⟩) | (go_at_call 104; refine (HCO.out _ (Kd.C_drewN (Kd.C_alloc HR.out _) _) (blk_drewN (blk_new _ _) _)).mono ?_; rintro e w' ⟨rfl, hb'⟩))
      go_ret
      exact ⟨rfl, below_step (pw_below_drewN (below_alloc (Below.refl _ _) _) _) hb'⟩
    · have hA : areLettersB a0 l1 = false := by
        have h2' : ¬ l1.length ≤ 60 := by omega
        simp [areLettersB, h2']
      rw [hA]
      clear hr1 hA
      go_enter Try.func67, Try.ntmps67
      go_wp2_with (go_at_call 49; refine (hF _).mono ?_; rintro e w' ⟨rfl, ⟨nd, rfl⟩⟩)
      go_ret
      exact ⟨rfl, pw_below_drewN (below_alloc (Below.refl _ _) _) _⟩
  · have e1 : (decide (1 ≤ a0) && decide (a0 ≤ 10)) = false := by rw [Bool.eq_false_iff]; simpa using h1
    rw [e1] at hF
    have hA : areLettersB a0 l1 = false := by
      rw [Bool.eq_false_iff]; intro hh; simp [areLettersB] at hh; exact h1 ⟨hh.1, hh.2.1⟩
    rw [hA]
    clear hr1 hA
    go_enter Try.func67, Try.ntmps67
    go_wp2_with (go_at_call 49; refine (hF _).mono ?_; rintro e w' ⟨rfl, ⟨nd, rfl⟩⟩)
    go_ret
    exact ⟨rfl, pw_below_drewN (below_alloc (Below.refl _ _) _) _⟩

/-! ### impl_areArrows: function 77 -/
def impl_areArrows.f (a0 : Int) (l1 : List (S75)) : Option (Bool) := if a0 ≤ 8 then ((impl_AreLetters.f a0 l1).bind fun t174 => (some t174)) else (some false)
set_option maxHeartbeats 8000000 in
set_option maxRecDepth 100000 in
theorem impl_areArrows.calls (a0 : Int) (A1 : Option Addr) (c1 : Nat) (l1 : List (S75)) (r : Bool) (w : World) (hr1 : Kd.C k75 w A1 l1.length l1) (hc1 : l1.length ≤ c1) (h : impl_areArrows.f a0 l1 = some r) :
    Calls Try.prog 77 #[.int .i64 a0, .slice A1 l1.length c1] w fun e w' => e = .returned (.bool r) ∧ Below w.heap.size w w' := by
  have HR1 := Aside0.mk hr1
  have HC1 := Aside0.mk hc1
  clear hr1 hc1
  have HB := Aside0.mk (Below.refl w.heap.size w)
  have H : (if a0 ≤ 8 then ((impl_AreLetters.f a0 l1).bind fun t174 => (some t174)) else (some false)) = some r := h
  clear h
  by_cases c3 : a0 ≤ 8
  · rw [if_pos c3] at H
    have c3b0 : decide (a0 ≤ 8) = true := decide_eq_true c3
    clear c3
    replace H := Option.bind_eq_some_iff.mp H
    obtain ⟨t174, A40, H⟩ := H
    replace H : (some t174) = some r := H
    have A4 := Aside0.mk A40
    clear A40
    obtain rfl := Option.some.inj H
    go_enter Try.func77, Try.ntmps77
    go_wp2_with (first | (go_at_call 67; (with_reducible refine (impl_AreLetters.calls a0 _ _ l1 t174 _ ?side1 ?side2 A4.out).mono ?_); (case side1 => repeat (first | exact HR1.out | (with_reducible refine Kd.C_alloc ?_ _) | (with_reducible refine Kd.C_drewN ?_ _) | (with_reducible refine Kd.C_drew ?_))); (case side2 => exact HC1.out); rintro e w5 ⟨rfl, hb⟩; have n0_ := Aside0.mk (below_step (by repeat (first | (with_reducible first | exact HB.out | apply below_alloc | apply pw_below_drewN | apply below_drew1) | exact HB.out)) hb); clear HB; have HB := n0_; clear n0_; (try clear hb); (try clear hb2); (try clear hk); (try clear hi)))
    go_ret
    exact ⟨by first | rfl | (simp [errW_none, errW_some] <;> rfl) | (simp [*, errW_none, errW_some] <;> rfl), by repeat (first | (with_reducible first | exact HB.out | apply below_alloc | apply pw_below_drewN | apply below_drew1) | exact HB.out)⟩
  · rw [if_neg c3] at H
    have c3b0 : decide (a0 ≤ 8) = false := decide_eq_false c3
    clear c3
    obtain rfl := Option.some.inj H
    go_enter Try.func77, Try.ntmps77
    go_wp2
    go_ret
    exact ⟨by first | rfl | (simp [errW_none, errW_some] <;> rfl) | (simp [*, errW_none, errW_some] <;> rfl), by repeat (first | (with_reducible first | exact HB.out | apply below_alloc | apply pw_below_drewN | apply below_drew1) | exact HB.out)⟩

/-! ### impl_first: function 108 -/
def impl_first.l0 : Nat → List Int → Int → Int → Option (List Int)
  | 0, _, _, _ => none
  | k + 1, x3, x6, x7 => if x7 < x6 then (if 0 ≤ x7 then (if x3.length < 70368744177664 then (impl_first.l0 k (x3 ++ [shl .u16 1 x7]) x6 (wrap64 (x7 + 1))) else (none)) else (none)) else (some x3)
def impl_first.f (k : Nat) (a0 : Int) : Option (List Int) := impl_first.l0 k (([] : List Int)) a0 0
theorem impl_first.mono_l : ∀ k, (∀ y0 y1 y2, LeO (impl_first.l0 k y0 y1 y2) (impl_first.l0 (k + 1) y0 y1 y2))
  | 0 => fun _ _ _ r h => by simp [impl_first.l0] at h
  | k + 1 => by
    have ih0 := impl_first.mono_l k
    · intro y0 y1 y2
      unfold impl_first.l0
      repeat' first
      | (with_reducible exact ih0 _ _ _)
      | (with_reducible exact LeO.refl _)
      | (with_reducible exact LeO.none _)
      | (with_reducible refine LeO.ite ?_ ?_)
      | (with_reducible refine LeO.bind ?_ (fun _ => ?_))
      | exact ih0 _ _ _
      | exact LeO.none _
      | refine LeO.ite ?_ ?_
      | refine LeO.bind ?_ (fun _ => ?_)
theorem impl_first.mono : ∀ a0 k, LeO (impl_first.f k a0) (impl_first.f (k + 1) a0) := by
  intro a0 k
  have ih0 := impl_first.mono_l k
  unfold impl_first.f
  repeat' first
      | (with_reducible exact ih0 _ _ _)
      | (with_reducible exact LeO.refl _)
      | (with_reducible exact LeO.none _)
      | (with_reducible refine LeO.ite ?_ ?_)
      | (with_reducible refine LeO.bind ?_ (fun _ => ?_))
      | exact ih0 _ _ _
      | exact LeO.none _
      | refine LeO.ite ?_ ?_
      | refine LeO.bind ?_ (fun _ => ?_)
set_option maxHeartbeats 8000000 in
set_option maxRecDepth 100000 in
theorem impl_first.calls (k : Nat) (a0 : Int) (r : List Int) (w : World) (h : impl_first.f k a0 = some r) :
    Calls Try.prog 108 #[.int .i64 a0] w fun e w' => ∃ v0_ : Value, e = .returned (v0_) ∧ Kd.R (Kd.int .u16) 90 w' w.heap.size (fun _ => True) v0_ r ∧ Below w.heap.size w w' := by
  have HB := Aside0.mk (Below.refl w.heap.size w)
  have H : (impl_first.l0 k (([] : List Int)) a0 0) = some r := h
  clear h
  obtain ⟨y175, hy175⟩ : ∃ y_ : List Int, y_ = (([] : List Int)) := ⟨_, rfl⟩
  replace H : (impl_first.l0 k y175 a0 0) = some r := by first | (rw [hy175]; with_reducible exact H) | (have H2_ := (Option.bind_some _ _).symm.trans H; rw [hy175]; with_reducible exact H2_) | (have H2_ := (Option.bind_some _ _).symm.trans H; with_reducible exact H2_) | with_reducible exact H | (rw [hy175]; exact H) | exact H
  have Ny175 := Aside0.mk hy175
  clear hy175
  have H' := Aside0.mk H
  clear H
  go_enter Try.func108, Try.ntmps108
  go_wp2_with (first | ((with_reducible refine gate_dst (N := 5) rfl ?_); refine Kd.R_lit (Kd.int .u16) _ 90 ?hg (N := 5) ?hd (xs := ([] : List Int)) (inner := []) (ok := fun _ => True) (okp := fun _ => True) ?hr ?hp (fun _ hk => hk) trivial (Below.refl _ _) (Nat.le_refl _) (by simp) ?_; (case hd => rfl); (case hg => rfl); (case hr => first | (go_simp; done) | (go_simp; rfl)); (case hp => exact (Reps.none _ _)); intro v176 w2 ho3 hb hg_ hnew_; clear hg_ hnew_; (first | rw [← Ny175.out] at ho3 | (simp only [Int.reduceToNat] at ho3; rw [← Ny175.out] at ho3)); have n0_ := Aside0.mk (Kd.R_lower ho3 (below_size (by repeat (first | (with_reducible first | exact HB.out | apply below_alloc | apply pw_below_drewN | apply below_drew1) | exact HB.out)))); have n1_ := Aside0.mk (below_step (by repeat (first | (with_reducible first | exact HB.out | apply below_alloc | apply pw_below_drewN | apply below_drew1) | exact HB.out)) hb); clear HB; have HO177 := n0_; have HB := n1_; clear n0_ n1_; clear hb ho3))
  go_loopg [3, 7] k (fun kq v3 v7 w' => ∃ (x3_1 : List Int) (x7_1 : Int), v7 = .int .i64 x7_1 ∧ Aside0 (impl_first.l0 kq x3_1 a0 x7_1 = some r) ∧ Aside0 (kq ≤ k) ∧ Aside0 (Kd.R (Kd.int .u16) 90 w' w.heap.size (fun _ => True) v3 x3_1) ∧ Aside0 (Below w.heap.size w w'))
  case atStart => exact ⟨(y175), (0), (by first | rfl | (simp; done) | (simp [*]; done)), H', ⟨Nat.le_refl _⟩, ⟨by (with_reducible repeat (first | apply Kd.R_alloc | apply Kd.R_drewN | apply Kd.R_drew)); exact HO177.out⟩, ⟨by repeat (first | (with_reducible first | exact HB.out | apply below_alloc | apply pw_below_drewN | apply below_drew1) | exact HB.out)⟩⟩
  case round =>
    clear H'
    try clear c1
    try clear p2
    obtain ⟨x3_1, x7_1, rfl, HA, HK1, HO_3, HB⟩ := hrel
    cases gk with
    | zero => exact absurd HA.out (by simp [impl_first.l0])
    | succ k1 =>
      have H := HA.out
      clear HA
      simp only [impl_first.l0] at H
      by_cases c4 : x7_1 < a0
      · rw [if_pos c4] at H
        have c4b0 : decide (x7_1 < a0) = true := decide_eq_true c4
        clear c4
        by_cases c5 : 0 ≤ x7_1
        · rw [if_pos c5] at H
          have c5b0 := eq_true c5
          have c5b1 : decide (0 ≤ x7_1) = true := decide_eq_true c5
          clear c5
          obtain ⟨ji6, hji6⟩ : ∃ j_ : Int, (shl .u16 1 x7_1) = j_ := ⟨_, rfl⟩
          replace H : (if x3_1.length < 70368744177664 then (impl_first.l0 k1 (x3_1 ++ [ji6]) a0 (wrap64 (x7_1 + 1))) else (none)) = some r := by first | (rw [hji6] at H; exact H) | (simp only [hji6] at H ⊢; exact H)
          have hji6_ : (IntKind.u16.wrap (1 * 2 ^ min x7_1.toNat 16)) = ji6 := hji6
          have hji6z : x7_1 ≤ 16 → (IntKind.u16.wrap (1 * 2 ^ x7_1.toNat)) = ji6 := shl_small hji6
          have hji6u : (IntKind.u16.wrap (2 ^ min x7_1.toNat 16)) = ji6 := by have h_ := hji6_; rw [Int.one_mul] at h_; exact h_
          have hji6v : x7_1 ≤ 16 → (IntKind.u16.wrap (2 ^ x7_1.toNat)) = ji6 := fun hle_ => by have h_ := hji6z hle_; rw [Int.one_mul] at h_; exact h_
          by_cases c7 : x3_1.length < 70368744177664
          · rw [if_pos c7] at H
            have LMc7 := Aside0.mk c7
            clear c7
            obtain ⟨y178, hy178⟩ : ∃ y_ : List Int, y_ = (x3_1 ++ [ji6]) := ⟨_, rfl⟩
            replace H : (impl_first.l0 k1 y178 a0 (wrap64 (x7_1 + 1))) = some r := by first | (rw [hy178]; with_reducible exact H) | (have H2_ := (Option.bind_some _ _).symm.trans H; rw [hy178]; with_reducible exact H2_) | (have H2_ := (Option.bind_some _ _).symm.trans H; with_reducible exact H2_) | with_reducible exact H | (rw [hy178]; exact H) | exact H
            have Ny178 := Aside0.mk hy178
            clear hy178
            have H' := Aside0.mk H
            clear H
            go_wp2_with (first | ((with_reducible refine gate_builtin (b := .append) (xs := #[.tmp 10, .tmp 13]) rfl ?_); at_builtin; refine Kd.R_append (Kd.int .u16) (w0 := w) w.heap.size rfl (.tmp 10) (.tmp 13) 85 90 (.int .u16 0) 2 rfl Try.underlying85 info90 rfl (by decide) (by omega) u3 x3_1 ji6 [.int .u16 ji6] (fun _ => True) (fun _ => False) rfl rfl ?aP (fun _ hk => hk.elim) ?aF ?aO ?aB ?aS ?aL ?_; (case aP => exact rfl); (case aB => exact (by repeat (first | (with_reducible first | exact HB.out | apply below_alloc | apply pw_below_drewN | apply below_drew1) | exact HB.out))); (case aF => exact (fun _ _ => trivial)); (case aO => exact (by (with_reducible repeat (first | apply Kd.R_alloc | apply Kd.R_drewN | apply Kd.R_drew)); exact HO_3.out)); (case aS => exact (below_size (by repeat (first | (with_reducible first | exact HB.out | apply below_alloc | apply pw_below_drewN | apply below_drew1) | exact HB.out)))); (case aL => have := LMc7.out; omega); intro v179 w8 ho hb hg hat; rw [← Ny178.out] at ho; have n0_ := Aside0.mk (hb); have n1_ := Aside0.mk (ho); clear HB; clear HO_3; have HB := n0_; have HO180 := n1_; clear n0_ n1_; clear ho hb hg hat))
            go_roundg k1
            case measure => have := HK1.out; omega
            case rel => exact ⟨(y178), (wrap64 (x7_1 + 1)), (by first | rfl | (simp; done) | (simp [*]; done)), H', ⟨by have := HK1.out; omega⟩, ⟨by (with_reducible repeat (first | apply Kd.R_alloc | apply Kd.R_drewN | apply Kd.R_drew)); exact HO180.out⟩, ⟨by repeat (first | (with_reducible first | exact HB.out | apply below_alloc | apply pw_below_drewN | apply below_drew1) | exact HB.out)⟩⟩
          · rw [if_neg c7] at H
            exact absurd H (by simp)
        · rw [if_neg c5] at H
          exact absurd H (by simp)
      · rw [if_neg c4] at H
        have c4b0 : decide (x7_1 < a0) = false := decide_eq_false c4
        clear c4
        obtain rfl := Option.some.inj H
        go_wp2
        go_ret
        exact ⟨_, by first | rfl | (simp [errW_none, errW_some] <;> rfl) | (simp [*, errW_none, errW_some] <;> rfl), by (with_reducible repeat (first | apply Kd.R_alloc | apply Kd.R_drewN | apply Kd.R_drew)); exact HO_3.out, by repeat (first | (with_reducible first | exact HB.out | apply below_alloc | apply pw_below_drewN | apply below_drew1) | exact HB.out)⟩

end Go.Proofs.Ytelhjfalkhmhkaa.PFnExactSilentGroups
