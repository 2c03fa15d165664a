-- Written by the session's mkprint.py over the kit's print.py (function texts marked OURS are the session's own).
import Derived.Test.YtipihdhghbkpfaaPFnExactCallsOfx0
import Derived.Test.YtipihdhghbkpfaaHContCall
import Derived.Test.YtipihdhghbkpfaaHIndices
namespace Go.Proofs.Ytipihdhghbkpfaa.PFnExactCallsOf
open Go.RowKit Go.Proofs.YtipihdhghbkpfaaW.PrintWords Go.Proofs.YtipihdhghbkpfaaW.PrintLast Go.Proofs.YtipihdhghbkpfaaW.PrintMore
attribute [local go_sem] max2_int min2_int max_two min_two max_three min_three max_four min_four   -- for this text's walks alone
set_option linter.unusedVariables false
set_option linter.unusedSimpArgs false

/-! ### impl_within: function 73 -/
def impl_within.f (a0 : Int) (a1 : Int) (a2 : Int) : Option (Bool) := if a1 ≤ a0 then (some (decide (a0 ≤ a2))) else (some false)
set_option maxHeartbeats 8000000 in
set_option maxRecDepth 100000 in
theorem impl_within.calls (a0 : Int) (a1 : Int) (a2 : Int) (r : Bool) (w : World) (h : impl_within.f a0 a1 a2 = some r) :
    Calls Try.prog 73 #[.int .i64 a0, .int .i64 a1, .int .i64 a2] w fun e w' => e = .returned (.bool r) ∧ Drawn0 w w' := by
  have H : (if a1 ≤ a0 then (some (decide (a0 ≤ a2))) else (some false)) = some r := h
  clear h
  by_cases c4 : a1 ≤ a0
  · rw [if_pos c4] at H
    have c4b0 : decide (a1 ≤ a0) = true := decide_eq_true c4
    clear c4
    obtain rfl := Option.some.inj H
    go_enter Try.func73, Try.ntmps73
    go_wp2
    go_ret
    exact ⟨by first | rfl | (simp; done) | (simp [*]; done), by repeat (first | exact Drawn0.refl _ | apply Drawn0.step)⟩
  · rw [if_neg c4] at H
    have c4b0 : decide (a1 ≤ a0) = false := decide_eq_false c4
    clear c4
    obtain rfl := Option.some.inj H
    go_enter Try.func73, Try.ntmps73
    go_wp2
    go_ret
    exact ⟨by first | rfl | (simp; done) | (simp [*]; done), by repeat (first | exact Drawn0.refl _ | apply Drawn0.step)⟩

/-! ### impl_areFriends: function 53 -/
def impl_areFriends.f (a0 : Int) : Option (Bool) := (impl_within.f a0 1 10).bind fun t136 => (some t136)
set_option maxHeartbeats 8000000 in
set_option maxRecDepth 100000 in
theorem impl_areFriends.calls (a0 : Int) (r : Bool) (w : World) (h : impl_areFriends.f a0 = some r) :
    Calls Try.prog 53 #[.int .i64 a0] w fun e w' => e = .returned (.bool r) ∧ Drawn0 w w' := by
  have H : ((impl_within.f a0 1 10).bind fun t136 => (some t136)) = some r := h
  clear h
  replace H := Option.bind_eq_some_iff.mp H
  obtain ⟨t136, A20, H⟩ := H
  replace H : (some t136) = some r := H
  have A2 := Aside0.mk A20
  clear A20
  obtain rfl := Option.some.inj H
  go_enter Try.func53, Try.ntmps53
  go_wp2_with (first | ((with_reducible refine gate_callee (f := 73) rfl ?_); refine goesL_ (some 4) rfl rfl Try.func73 (by kernel_rfl) rfl #[.int .i64 a0, .int .i64 1, .int .i64 10] rfl (by (try simp only [List.map_toArray, List.map_cons, List.map_nil]); first | done | rfl | (simp only [List.length_drop, List.length_take]; rfl)) ?_; (with_reducible refine (impl_within.calls a0 1 10 t136 _ A2.out).mono ?_); rintro e w' ⟨rfl, ⟨nd, rfl⟩⟩; refine ⟨_, rfl, ?_⟩))
  go_ret
  exact ⟨by first | rfl | (simp; done) | (simp [*]; done), by repeat (first | exact Drawn0.refl _ | apply Drawn0.step)⟩

/-! ### impl_isCall: function 56 -/
def impl_isCall.f (a0 : Int) (a1_0 : Int) (a1_1 : Int) : Option (Bool) := if a1_0 ≥ 0 then (if a1_0 < a1_1 then (some (decide (a1_1 < a0))) else (some false)) else (some false)
set_option maxHeartbeats 8000000 in
set_option maxRecDepth 100000 in
theorem impl_isCall.calls (a0 : Int) (a1_0 : Int) (a1_1 : Int) (r : Bool) (w : World) (h : impl_isCall.f a0 a1_0 a1_1 = some r) :
    Calls Try.prog 56 #[.int .i64 a0, .agg #[.int .i64 a1_0, .int .i64 a1_1]] w fun e w' => e = .returned (.bool r) ∧ Below w.heap.size w w' := by
  have hu53 := Try.underlying53
  have HB := Aside0.mk (Below.refl w.heap.size w)
  have H : (if a1_0 ≥ 0 then (if a1_0 < a1_1 then (some (decide (a1_1 < a0))) else (some false)) else (some false)) = some r := h
  clear h
  by_cases c3 : a1_0 ≥ 0
  · rw [if_pos c3] at H
    have c3b0 : decide (0 ≤ a1_0) = true := decide_eq_true c3
    clear c3
    by_cases c4 : a1_0 < a1_1
    · rw [if_pos c4] at H
      have c4b0 : decide (a1_0 < a1_1) = true := decide_eq_true c4
      clear c4
      obtain rfl := Option.some.inj H
      go_enter Try.func56, Try.ntmps56
      go_wp2_with (first | ((with_reducible refine gate_dst (N := 3) rfl ?_); refine box_event ?hg (N := 3) ?hd (cs := #[.int .i64 a1_0, .int .i64 a1_1]) (t := 53) ?hr ?_; (case hd => rfl); (case hg => rfl); (case hr => first | (go_simp; done) | (go_simp; rfl)); intro gb137 hg w5 hbox hb; have n0_ := Aside0.mk (below_step (by repeat (first | (with_reducible first | exact HB.out | apply below_alloc | apply pw_below_drewN | apply below_drew1) | exact HB.out)) hb); have n1_ := Aside0.mk (hbox); have n2_ := Aside0.mk ((by rw [hg]; exact (below_size (by repeat (first | (with_reducible first | exact HB.out | apply below_alloc | apply pw_below_drewN | apply below_drew1) | exact HB.out))) : w.heap.size ≤ gb137)); have n3_ := Aside0.mk ((by rw [hg]; exact (below_size (by repeat (first | (with_reducible first | exact HB.out | apply below_alloc | apply pw_below_drewN | apply below_drew1) | exact HB.out))) : w.heap.size ≤ gb137)); clear HB; have HB := n0_; have BK137 := n1_; have GW137 := n2_; have GE137 := n3_; clear n0_ n1_ n2_ n3_; clear hb hbox hg; have hcz6_0 : w5.cell? ⟨gb137, 0, none⟩ = some (.int .i64 a1_0) := (blk_cell BK137.out 0).trans rfl; have hcz6_1 : w5.cell? ⟨gb137, 1, none⟩ = some (.int .i64 a1_1) := (blk_cell BK137.out 1).trans rfl; have hfz6_0 := blk_frozen BK137.out 0; have hfz6_1 := blk_frozen BK137.out 1))
      go_ret
      exact ⟨by first | rfl | (simp [errW_none, errW_some] <;> rfl) | (simp [*, errW_none, errW_some] <;> rfl), by repeat (first | (with_reducible first | exact HB.out | apply below_alloc | apply pw_below_drewN | apply below_drew1 | refine below_set ?_ GE137.out) | exact HB.out)⟩
    · rw [if_neg c4] at H
      have c4b0 : decide (a1_0 < a1_1) = false := decide_eq_false c4
      clear c4
      obtain rfl := Option.some.inj H
      go_enter Try.func56, Try.ntmps56
      go_wp2_with (first | ((with_reducible refine gate_dst (N := 3) rfl ?_); refine box_event ?hg (N := 3) ?hd (cs := #[.int .i64 a1_0, .int .i64 a1_1]) (t := 53) ?hr ?_; (case hd => rfl); (case hg => rfl); (case hr => first | (go_simp; done) | (go_simp; rfl)); intro gb137 hg w7 hbox hb; have n0_ := Aside0.mk (below_step (by repeat (first | (with_reducible first | exact HB.out | apply below_alloc | apply pw_below_drewN | apply below_drew1) | exact HB.out)) hb); have n1_ := Aside0.mk (hbox); have n2_ := Aside0.mk ((by rw [hg]; exact (below_size (by repeat (first | (with_reducible first | exact HB.out | apply below_alloc | apply pw_below_drewN | apply below_drew1) | exact HB.out))) : w.heap.size ≤ gb137)); have n3_ := Aside0.mk ((by rw [hg]; exact (below_size (by repeat (first | (with_reducible first | exact HB.out | apply below_alloc | apply pw_below_drewN | apply below_drew1) | exact HB.out))) : w.heap.size ≤ gb137)); clear HB; have HB := n0_; have BK137 := n1_; have GW137 := n2_; have GE137 := n3_; clear n0_ n1_ n2_ n3_; clear hb hbox hg; have hcz8_0 : w7.cell? ⟨gb137, 0, none⟩ = some (.int .i64 a1_0) := (blk_cell BK137.out 0).trans rfl; have hcz8_1 : w7.cell? ⟨gb137, 1, none⟩ = some (.int .i64 a1_1) := (blk_cell BK137.out 1).trans rfl; have hfz8_0 := blk_frozen BK137.out 0; have hfz8_1 := blk_frozen BK137.out 1))
      go_ret
      exact ⟨by first | rfl | (simp [errW_none, errW_some] <;> rfl) | (simp [*, errW_none, errW_some] <;> rfl), by repeat (first | (with_reducible first | exact HB.out | apply below_alloc | apply pw_below_drewN | apply below_drew1 | refine below_set ?_ GE137.out) | exact HB.out)⟩
  · rw [if_neg c3] at H
    have c3b0 : decide (0 ≤ a1_0) = false := decide_eq_false c3
    clear c3
    obtain rfl := Option.some.inj H
    go_enter Try.func56, Try.ntmps56
    go_wp2_with (first | ((with_reducible refine gate_dst (N := 3) rfl ?_); refine box_event ?hg (N := 3) ?hd (cs := #[.int .i64 a1_0, .int .i64 a1_1]) (t := 53) ?hr ?_; (case hd => rfl); (case hg => rfl); (case hr => first | (go_simp; done) | (go_simp; rfl)); intro gb137 hg w9 hbox hb; have n0_ := Aside0.mk (below_step (by repeat (first | (with_reducible first | exact HB.out | apply below_alloc | apply pw_below_drewN | apply below_drew1) | exact HB.out)) hb); have n1_ := Aside0.mk (hbox); have n2_ := Aside0.mk ((by rw [hg]; exact (below_size (by repeat (first | (with_reducible first | exact HB.out | apply below_alloc | apply pw_below_drewN | apply below_drew1) | exact HB.out))) : w.heap.size ≤ gb137)); have n3_ := Aside0.mk ((by rw [hg]; exact (below_size (by repeat (first | (with_reducible first | exact HB.out | apply below_alloc | apply pw_below_drewN | apply below_drew1) | exact HB.out))) : w.heap.size ≤ gb137)); clear HB; have HB := n0_; have BK137 := n1_; have GW137 := n2_; have GE137 := n3_; clear n0_ n1_ n2_ n3_; clear hb hbox hg; have hcz10_0 : w9.cell? ⟨gb137, 0, none⟩ = some (.int .i64 a1_0) := (blk_cell BK137.out 0).trans rfl; have hcz10_1 : w9.cell? ⟨gb137, 1, none⟩ = some (.int .i64 a1_1) := (blk_cell BK137.out 1).trans rfl; have hfz10_0 := blk_frozen BK137.out 0; have hfz10_1 := blk_frozen BK137.out 1))
    go_ret
    exact ⟨by first | rfl | (simp [errW_none, errW_some] <;> rfl) | (simp [*, errW_none, errW_some] <;> rfl), by repeat (first | (with_reducible first | exact HB.out | apply below_alloc | apply pw_below_drewN | apply below_drew1 | refine below_set ?_ GE137.out) | exact HB.out)⟩

/-! ### impl_AreCalls: OURS: function 18 -/
def isCallB (n a b : Int) : Bool := decide (0 ≤ a) && (decide (a < b) && decide (b < n))
theorem isCall_f (n a b : Int) : impl_isCall.f n a b = some (isCallB n a b) := by
  unfold impl_isCall.f isCallB
  by_cases h1 : 0 ≤ a <;> by_cases h2 : a < b <;> by_cases h3 : b < n <;> simp [h1, h2, h3]
def areCallsB (n : Int) (l : List S53) : Bool := decide (1 ≤ n) && (decide (n ≤ 10) && (decide (l.length ≤ 60) && l.all fun c => isCallB n c.f0 c.f1))
theorem areFriends_f (n : Int) : impl_areFriends.f n = some (decide (1 ≤ n) && decide (n ≤ 10)) := by
  unfold impl_areFriends.f impl_within.f
  by_cases h1 : 1 ≤ n <;> by_cases h2 : n ≤ 10 <;> simp [h1, h2]
instance : Inhabited S53 := ⟨z53⟩
set_option maxHeartbeats 1000000 in
set_option maxRecDepth 100000 in
theorem areCalls_lit (n : Int) (g : Nat) (w : World) (hg : w.heap[g]? = some (.cells #[.int .i64 n] 3 (0, 0))) :
    Go.Proofs.Ytipihdhghbkpfaa.H.PredCall 55 #[.pointer (some ⟨g, 0, none⟩)] S53.f0 S53.f1 (fun c => !isCallB n c.f0 c.f1) w := by
  rintro W ⟨a, b⟩ hb
  have hc0 : W.cell? ⟨g, 0, none⟩ = some (.int .i64 n) := by
    have h1 : w.cell? ⟨g, 0, none⟩ = some (.int .i64 n) := (blk_cell hg 0).trans rfl
    exact Go.Proofs.Ytipihdhghbkpfaa.H.cell_b hb h1
  have hc1 : ∀ o, (W.alloc o).cell? ⟨g, 0, none⟩ = some (.int .i64 n) := fun o => Go.Proofs.Ytipihdhghbkpfaa.H.cell_b (below_alloc (Below.refl _ _) o) hc0
  clear hc0
  have hB := Aside0.mk hb
  clear hb hg
  show Calls _ _ #[.agg #[.int .i64 a, .int .i64 b], .pointer (some ⟨g, 0, none⟩)] W fun e w' => e = .returned (.bool (!isCallB n a b)) ∧ Below w.heap.size w w'
  have hcall := fun W2 => impl_isCall.calls n a b _ W2 (isCall_f n a b)
  generalize isCallB n a b = q at hcall ⊢
  have hu := Try.underlying53
  go_enter Try.func55, Try.ntmps55
  go_wp2_with (go_at_call 56; refine (hcall _).mono ?_; rintro e w' ⟨rfl, hb'⟩)
  go_ret
  exact ⟨rfl, below_step (below_alloc hB.out _) hb'⟩

def impl_AreCalls.f (a0 : Int) (l1 : List S53) : Option Bool := some (areCallsB a0 l1)
set_option maxHeartbeats 1000000 in
set_option maxRecDepth 100000 in
theorem impl_AreCalls.calls (a0 : Int) (A1 : Option Addr) (c1 : Nat) (l1 : List S53) (r : Bool) (w : World) (hr1 : Kd.C k53 w A1 l1.length l1) (hc1 : l1.length ≤ c1) (h : impl_AreCalls.f a0 l1 = some r) :
    Calls Try.prog 18 #[.int .i64 a0, .slice A1 l1.length c1] w fun e w' => e = .returned (.bool r) ∧ Below w.heap.size w w' := by
  obtain rfl := Option.some.inj h
  have hmax : (l1.length : Int) ≤ 9223372036854775807 := by have := Kd.C_max hr1; omega
  have hF := fun W2 => impl_areFriends.calls a0 _ W2 (areFriends_f a0)
  by_cases h1 : 1 ≤ a0 ∧ a0 ≤ 10
  · have e1 : (decide (1 ≤ a0) && decide (a0 ≤ 10)) = true := by simp [h1]
    rw [e1] at hF
    by_cases h2 : (l1.length : Int) ≤ 60
    · have hA : areCallsB a0 l1 = !(l1.any fun c => !isCallB a0 c.f0 c.f1) := by
        have h2' : l1.length ≤ 60 := by omega
        simp [areCallsB, h1, h2', List.all_eq_not_any_not]
      rw [hA]
      have hlit := areCalls_lit a0 w.heap.size
      have HR := Aside0.mk hr1
      clear hr1 hA
      have eg := enters_of Try.func55 (by kernel_rfl) rfl
      have hcont := fun W2 hx hy => Go.Proofs.Ytipihdhghbkpfaa.H.containsFuncCall (d := k53) (fa := S53.f0) (fb := S53.f1) rfl (fun _ _ _ h => k53_open h) (fun c => !isCallB a0 c.f0 c.f1) 55 #[.pointer (some ⟨w.heap.size, 0, none⟩)] eg A1 c1 l1 W2 hx (hlit W2 hy)
      clear hlit
      generalize (l1.any fun c => !isCallB a0 c.f0 c.f1) = q at hcont ⊢
      have HCO := Aside0.mk hcont
      clear hcont
      go_enter Try.func18, Try.ntmps18
      go_wp2_with (first | (go_at_call 53; refine (hF _).mono ?_; rintro e w' ⟨rfl, ⟨nd, rfl⟩⟩) | (go_at_call 54; refine (HCO.out _ (Kd.C_drewN (Kd.C_alloc HR.out _) _) (blk_drewN (blk_new _ _) _)).mono ?_; rintro e w' ⟨rfl, hb'⟩))
      go_ret
      exact ⟨rfl, below_step (pw_below_drewN (below_alloc (Below.refl _ _) _) _) hb'⟩
    · have hA : areCallsB a0 l1 = false := by
        have h2' : ¬ l1.length ≤ 60 := by omega
        simp [areCallsB, h2']
      rw [hA]
      clear hr1 hA
      go_enter Try.func18, Try.ntmps18
      go_wp2_with (go_at_call 53; refine (hF _).mono ?_; rintro e w' ⟨rfl, ⟨nd, rfl⟩⟩)
      go_ret
      exact ⟨rfl, pw_below_drewN (below_alloc (Below.refl _ _) _) _⟩
  · have e1 : (decide (1 ≤ a0) && decide (a0 ≤ 10)) = false := by rw [Bool.eq_false_iff]; simpa using h1
    rw [e1] at hF
    have hA : areCallsB a0 l1 = false := by
      rw [Bool.eq_false_iff]; intro hh; simp [areCallsB] at hh; exact h1 ⟨hh.1, hh.2.1⟩
    rw [hA]
    clear hr1 hA
    go_enter Try.func18, Try.ntmps18
    go_wp2_with (go_at_call 53; refine (hF _).mono ?_; rintro e w' ⟨rfl, ⟨nd, rfl⟩⟩)
    go_ret
    exact ⟨rfl, pw_below_drewN (below_alloc (Below.refl _ _) _) _⟩

/-! ### impl_isFriend: function 61 -/
def impl_isFriend.f (a0 : Int) (a1 : Int) : Option (Bool) := (impl_within.f a1 0 (wrap64 (a0 - 1))).bind fun t141 => (some t141)
set_option maxHeartbeats 8000000 in
set_option maxRecDepth 100000 in
theorem impl_isFriend.calls (a0 : Int) (a1 : Int) (r : Bool) (w : World) (h : impl_isFriend.f a0 a1 = some r) :
    Calls Try.prog 61 #[.int .i64 a0, .int .i64 a1] w fun e w' => e = .returned (.bool r) ∧ Drawn0 w w' := by
  have H : ((impl_within.f a1 0 (wrap64 (a0 - 1))).bind fun t141 => (some t141)) = some r := h
  clear h
  replace H := Option.bind_eq_some_iff.mp H
  obtain ⟨t141, A30, H⟩ := H
  replace H : (some t141) = some r := H
  have A3 := Aside0.mk A30
  clear A30
  obtain rfl := Option.some.inj H
  go_enter Try.func61, Try.ntmps61
  go_wp2_with (first | ((with_reducible refine gate_callee (f := 73) rfl ?_); refine goesL_ (some 8) rfl rfl Try.func73 (by kernel_rfl) rfl #[.int .i64 a1, .int .i64 0, .int .i64 (wrap64 (a0 - 1))] rfl (by (try simp only [List.map_toArray, List.map_cons, List.map_nil]); first | done | rfl | (simp only [List.length_drop, List.length_take]; rfl)) ?_; (with_reducible refine (impl_within.calls a1 0 (wrap64 (a0 - 1)) t141 _ A3.out).mono ?_); rintro e w' ⟨rfl, ⟨nd, rfl⟩⟩; refine ⟨_, rfl, ?_⟩))
  go_ret
  exact ⟨by first | rfl | (simp; done) | (simp [*]; done), by repeat (first | exact Drawn0.refl _ | apply Drawn0.step)⟩

/-! ### impl_CallsOf: OURS: function 25 -/
def inCallB (c : S53) (a : Int) : Bool := c.f0 == a || c.f1 == a
set_option maxHeartbeats 1000000 in
set_option maxRecDepth 100000 in
theorem callsOf_lit (a : Int) (A : Option Addr) (cp : Nat) (l : List S53) (g1 g2 : Nat) (w : World) (hC : Kd.C k53 w A l.length l) (hg1 : w.heap[g1]? = some (.cells #[.slice A l.length cp] 25 (0, 0))) (hg2 : w.heap[g2]? = some (.cells #[.int .i64 a] 3 (0, 0))) :
    Go.Proofs.Ytipihdhghbkpfaa.H.PredIdx 63 #[.pointer (some ⟨g1, 0, none⟩), .pointer (some ⟨g2, 0, none⟩)] l.length (fun k => inCallB (l.getD k z53) a) w := by
  intro W k hb hk
  have h1 : W.cell? ⟨g1, 0, none⟩ = some (.slice A l.length cp) := Go.Proofs.Ytipihdhghbkpfaa.H.cell_b hb ((blk_cell hg1 0).trans rfl)
  have h2 : W.cell? ⟨g2, 0, none⟩ = some (.int .i64 a) := Go.Proofs.Ytipihdhghbkpfaa.H.cell_b hb ((blk_cell hg2 0).trans rfl)
  have hmax : (l.length : Int) ≤ 9223372036854775807 := by have := Kd.C_max hC; omega
  have p0 : (0 : Int) ≤ (k : Int) := by omega
  have q0 : (k : Int) < (l.length : Int) := by omega
  obtain ⟨ad, rfl, c0, c1⟩ := at_T53 hC (k : Int) p0 q0
  replace c0 := Go.Proofs.Ytipihdhghbkpfaa.H.cell_b hb c0
  replace c1 := Go.Proofs.Ytipihdhghbkpfaa.H.cell_b hb c1
  have hr : rd_T53 l (k : Int) = l.getD k z53 := rfl
  rw [hr] at c0 c1
  show Calls _ _ #[.int .i64 (k : Int), .pointer (some ⟨g1, 0, none⟩), .pointer (some ⟨g2, 0, none⟩)] W fun e w' => e = .returned (.bool (inCallB (l.getD k z53) a)) ∧ Below W.heap.size W w'
  clear hC hg1 hg2 hb hr hk
  generalize l.getD k z53 = x at c0 c1 ⊢
  generalize (k : Int) = i at p0 q0 c0 c1 ⊢
  obtain ⟨x0, x1⟩ := x
  have hu := Try.underlying53
  unfold inCallB
  by_cases e0 : x0 = a
  · have d0 : (x0 == a) = true := by simp [e0]
    dsimp only
    rw [d0, Bool.true_or]
    clear e0
    go_enter Try.func63, Try.ntmps63
    go_wp2
    go_quiet (fail)
    go_wp2
    go_ret
    exact ⟨rfl, pw_below_drewN (Below.refl _ _) _⟩
  · have d0 : (x0 == a) = false := by simp [e0]
    dsimp only
    rw [d0, Bool.false_or]
    clear e0
    go_enter Try.func63, Try.ntmps63
    go_wp2
    go_quiet (fail)
    go_wp2
    go_ret
    exact ⟨rfl, pw_below_drewN (Below.refl _ _) _⟩
def impl_CallsOf.f (a0 : Int) (l1 : List S53) (a2 : Int) : Option (List Int × Bool) := some (if areCallsB a0 l1 = true then (if 0 ≤ a2 ∧ a2 < a0 then (Go.Proofs.Ytipihdhghbkpfaa.H.idxs (fun k => inCallB (l1.getD k z53) a2) l1.length, true) else ([], false)) else ([], false))
theorem isFriend_f (n a : Int) (h1 : 1 ≤ n) (h2 : n ≤ 10) : impl_isFriend.f n a = some (decide (0 ≤ a ∧ a < n)) := by
  unfold impl_isFriend.f impl_within.f
  have e : wrap64 (n - 1) = n - 1 := by unfold wrap64; omega
  rw [e]
  by_cases g1 : 0 ≤ a <;> by_cases g2 : a < n
  · have : a ≤ n - 1 := by omega
    simp [g1, g2, this]
  · have : ¬ a ≤ n - 1 := by omega
    simp [g1, g2, this]
  · simp [g1]
  · simp [g1]
set_option maxHeartbeats 1000000 in
set_option maxRecDepth 100000 in
theorem impl_CallsOf.calls (a0 : Int) (A1 : Option Addr) (c1 : Nat) (l1 : List S53) (a2 : Int) (r1 : List Int) (r2 : Bool) (w : World) (hr1 : Kd.C k53 w A1 l1.length l1) (hc1 : l1.length ≤ c1) (h : impl_CallsOf.f a0 l1 a2 = some (r1, r2)) :
    Calls Try.prog 25 #[.int .i64 a0, .slice A1 l1.length c1, .int .i64 a2] w fun e w' => ∃ v0_ : Value, e = .returned (.tuple #[v0_, .bool r2]) ∧ Kd.R (Kd.int .i64) 3 w' w.heap.size (fun _ => True) v0_ r1 ∧ Below w.heap.size w w' := by
  have h' := Option.some.inj h
  clear h
  have HR := Aside0.mk hr1
  have hA := fun W2 hx => impl_AreCalls.calls a0 A1 c1 l1 (areCallsB a0 l1) W2 hx hc1 rfl
  clear hr1
  have B1 : ((w.alloc (.cells #[.slice A1 l1.length c1] 25 (0, 0))).alloc (.cells #[.int .i64 a2] 3 (0, 0))).heap[w.heap.size]? = some (.cells #[.slice A1 l1.length c1] 25 (0, 0)) := blk_alloc (blk_new _ _) _
  have B2 : ((w.alloc (.cells #[.slice A1 l1.length c1] 25 (0, 0))).alloc (.cells #[.int .i64 a2] 3 (0, 0))).heap[w.heap.size + 1]? = some (.cells #[.int .i64 a2] 3 (0, 0)) := by
    have := blk_new (w.alloc (.cells #[.slice A1 l1.length c1] 25 (0, 0))) (.cells #[.int .i64 a2] 3 (0, 0))
    simpa using this
  have HB1 := Aside0.mk B1
  have HB2 := Aside0.mk B2
  clear B1 B2
  cases hq : areCallsB a0 l1 with
  | false =>
    rw [hq] at hA h'
    simp only [Bool.false_eq_true, if_false, Prod.mk.injEq] at h'
    obtain ⟨rfl, rfl⟩ := h'
    clear hq
    go_enter Try.func25, Try.ntmps25
    go_wp2_with (go_at_call 18; refine (hA _ (Kd.C_alloc (Kd.C_alloc HR.out _) _)).mono ?_; rintro e w1 ⟨rfl, hb⟩)
    go_ret2
    exact ⟨_, rfl, Kd.R_nil _ _ _ _ _, below_step (below_alloc (below_alloc (Below.refl _ _) _) _) hb⟩
  | true =>
    have hF : ∃ q, q = decide (0 ≤ a2 ∧ a2 < a0) := ⟨_, rfl⟩
    obtain ⟨q, hF⟩ := hF
    have hfr : 1 ≤ a0 ∧ a0 ≤ 10 ∧ l1.length ≤ 60 := by simp [areCallsB] at hq; exact ⟨hq.1, hq.2.1, hq.2.2.1⟩
    have hI := fun W2 => impl_isFriend.calls a0 a2 _ W2 (by rw [isFriend_f a0 a2 hfr.1 hfr.2.1, ← hF])
    rw [hq] at hA h'
    simp only [if_true] at h'
    have hl := hfr.2.2
    clear hq hfr
    cases q with
    | false =>
      have hn : ¬ (0 ≤ a2 ∧ a2 < a0) := by simpa using hF.symm
      rw [if_neg hn] at h'
      simp only [Prod.mk.injEq] at h'
      obtain ⟨rfl, rfl⟩ := h'
      clear hF hn
      go_enter Try.func25, Try.ntmps25
      go_wp2_with (first | (go_at_call 18; refine (hA _ (Kd.C_alloc (Kd.C_alloc HR.out _) _)).mono ?_; rintro e w1 ⟨rfl, hb⟩; have x2 := (blk_cell (blk_below HB2.out hb) 0).trans rfl) | (go_at_call 61; refine (hI _).mono ?_; rintro e w2 ⟨rfl, ⟨nd, rfl⟩⟩))
      go_ret2
      exact ⟨_, rfl, Kd.R_nil _ _ _ _ _, pw_below_drewN (below_step (below_alloc (below_alloc (Below.refl _ _) _) _) hb) _⟩
    | true =>
      have hn : 0 ≤ a2 ∧ a2 < a0 := by simpa using hF.symm
      rw [if_pos hn] at h'
      simp only [Prod.mk.injEq] at h'
      obtain ⟨rfl, rfl⟩ := h'
      clear hF hn
      have eg := enters_of Try.func63 (by kernel_rfl) rfl
      have hX := fun W2 hx hy hz => Go.Proofs.Ytipihdhghbkpfaa.H.indices_c l1.length (by omega) _ 63 #[.pointer (some ⟨w.heap.size, 0, none⟩), .pointer (some ⟨w.heap.size + 1, 0, none⟩)] eg W2 (callsOf_lit a2 A1 c1 l1 w.heap.size (w.heap.size + 1) W2 hx hy hz)
      have HX := Aside0.mk hX
      clear hX
      go_enter Try.func25, Try.ntmps25
      go_wp2_with (first | (go_at_call 18; refine (hA _ (Kd.C_alloc (Kd.C_alloc HR.out _) _)).mono ?_; rintro e w1 ⟨rfl, hb⟩; have x1 := (blk_cell (blk_below HB1.out hb) 0).trans rfl; have x2 := (blk_cell (blk_below HB2.out hb) 0).trans rfl; have HC1 := Aside0.mk (Kd.C_below (Kd.C_alloc (Kd.C_alloc HR.out (.cells #[.slice A1 l1.length c1] 25 (0, 0))) (.cells #[.int .i64 a2] 3 (0, 0))) hb); have HBB := Aside0.mk hb; clear hb) | (go_at_call 61; refine (hI _).mono ?_; rintro e w2 ⟨rfl, ⟨nd, rfl⟩⟩) | (go_at_call 62; refine (HX.out _ (Kd.C_drewN HC1.out _) (blk_drewN (blk_below HB1.out HBB.out) _) (blk_drewN (blk_below HB2.out HBB.out) _)).mono ?_; rintro e w3 ⟨v3, rfl, ho, hb3⟩))
      go_ret2
      exact ⟨_, rfl, Kd.R_lower ho (below_size (pw_below_drewN (below_step (below_alloc (below_alloc (Below.refl _ _) _) _) HBB.out) _)), below_step (pw_below_drewN (below_step (below_alloc (below_alloc (Below.refl _ _) _) _) HBB.out) _) hb3⟩


end Go.Proofs.Ytipihdhghbkpfaa.PFnExactCallsOf
