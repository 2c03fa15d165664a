-- Written by the session's mkprint.py over the kit's print.py (function texts marked OURS are the session's own).
import Derived.Test.YtnlmalicpckfbaaPFnExactFirstRoundsx0
import Derived.Test.YtnlmalicpckfbaaHBase
import Derived.Test.YtnlmalicpckfbaaHCloneS
import Derived.Test.YtnlmalicpckfbaaHGoes
import Derived.Test.YtnlmalicpckfbaaHInv
import Derived.Test.YtnlmalicpckfbaaPFnExactFirstRoundsx10
import Derived.Test.YtnlmalicpckfbaaPFnExactFirstRoundsx11
import Derived.Test.YtnlmalicpckfbaaPFnExactFirstRoundsx14
import Derived.Test.YtnlmalicpckfbaaPFnExactFirstRoundsx6
import Derived.Test.YtnlmalicpckfbaaPFnExactFirstRoundsx9
import Derived.Test.YtnlmalicpckfbaaWApart
import Derived.Test.YtnlmalicpckfbaaWKept
import Derived.Test.YtnlmalicpckfbaaWMore
namespace Go.Proofs.Ytnlmalicpckfbaa.PFnExactFirstRounds
open Go.RowKit Go.Proofs.YtnlmalicpckfbaaW.PrintWords Go.Proofs.YtnlmalicpckfbaaW.PrintLast Go.Proofs.YtnlmalicpckfbaaW.PrintMore
attribute [local go_sem] max2_int min2_int max_two min_two max_three min_three max_four min_four   -- for this text's walks alone
set_option linter.unusedVariables false
set_option linter.unusedSimpArgs false

/-! ### impl_FirstRounds: OURS: function 23 -/
def impl_FirstRounds.f (k : Nat) (a0 : Int) : Option ((List (List (S68))) × Bool) := (impl_within.f a0 1 6).bind fun t => if t = true then ((impl_fewestRounds.f k a0).bind fun many => (impl_allPairs.f k a0).bind fun ps => (impl_matchings.f k ps).bind fun all => (impl_first.f k a0).bind fun fs => impl_FirstRoundsLit1.f k [] fs many a0 all 0) else some ([], false)
theorem impl_FirstRounds.mono : ∀ a0 k, LeO (impl_FirstRounds.f k a0) (impl_FirstRounds.f (k + 1) a0) := fun a0 k => LeO.bind (LeO.refl _) (fun _ => LeO.ite (LeO.bind (impl_fewestRounds.mono _ _) (fun _ => LeO.bind (impl_allPairs.mono _ _) (fun _ => LeO.bind (impl_matchings.mono _ _) (fun _ => LeO.bind (impl_first.mono _ _) (fun _ => impl_FirstRoundsLit1.mono _ _ _ _ _ _ _))))) (LeO.refl _))
def impl_FirstRounds.T3 : Bool × List (List Nat × List Nat) := (true, [([], []), ([0], [0]), ([], []), ([2, 1], [2]), ([3, 3], [3]), ([], []), ([], []), ([5, 1, 4, 0, 1, 5, 6], [1, 5]), ([6, 4, 7, 0, 1, 2, 3, 4, 5, 6, 7], [4, 6])])
def impl_FirstRounds.B3 : List Nat := [0, 1, 0, 7, 15, 0, 0, 127, 255]
theorem impl_FirstRounds.tab3 : rtab .any (opsOf Try.f23 3) = impl_FirstRounds.T3 := by kernel_rfl
theorem impl_FirstRounds.bits3 : waitsOk impl_FirstRounds.T3.2 impl_FirstRounds.B3 = true := by kernel_rfl
def impl_FirstRounds.T6 : Bool × List (List Nat × List Nat) := (true, [([], []), ([], []), ([], []), ([2], [2]), ([0, 1, 3, 3], [0, 1, 3]), ([4], [4]), ([4], [4]), ([5, 4, 0, 1, 2, 3, 4, 5, 6], [5]), ([6, 7, 0, 1, 2, 3, 4, 5, 6, 7], [6])])
def impl_FirstRounds.B6 : List Nat := [0, 0, 0, 4, 15, 31, 31, 127, 255]
theorem impl_FirstRounds.tab6 : rtab .any (opsOf Try.f23 6) = impl_FirstRounds.T6 := by kernel_rfl
theorem impl_FirstRounds.bits6 : waitsOk impl_FirstRounds.T6.2 impl_FirstRounds.B6 = true := by kernel_rfl
set_option maxHeartbeats 8000000 in
set_option maxRecDepth 100000 in
theorem impl_FirstRounds.calls (k : Nat) (a0 : Int) (r1 : List (List (S68))) (r2 : Bool) (w : World) (h : impl_FirstRounds.f k a0 = some (r1, r2)) :
    Calls Try.prog 23 #[.int .i64 a0] w fun e w' => ∃ v0_ : Value, e = .returned (.tuple #[v0_, .bool r2]) ∧ Kd.S (Kd.slice 68 k68) 25 w' w.heap.size (fun _ => True) v0_ r1 ∧ Below w.heap.size w w' := by
  obtain ⟨t, ht, h'⟩ := Option.bind_eq_some_iff.1 h
  clear h
  have A2 := Aside0.mk ht
  clear ht
  have hu68 := Try.underlying68
  cases t with
  | false =>
    simp only [Bool.false_eq_true, if_false, Option.some.injEq, Prod.mk.injEq] at h'
    obtain ⟨rfl, rfl⟩ := h'
    go_enter Try.func23, Try.ntmps23
    go_wp2_with (first | ((with_reducible refine gate_callee (f := 41) rfl ?_); refine goesL_ (some 8) rfl rfl Try.func41 (by kernel_rfl) rfl #[.int .i64 a0, .int .i64 1, .int .i64 6] rfl (by (try simp only [List.map_toArray, List.map_cons, List.map_nil]); first | done | rfl | (simp only [List.length_drop, List.length_take]; rfl)) ?_; (with_reducible refine (impl_within.calls a0 1 6 false _ A2.out).mono ?_); rintro e w' ⟨rfl, ⟨nd, rfl⟩⟩; refine ⟨_, rfl, ?_⟩))
    go_ret2
    exact ⟨_, rfl, Kd.S_nil _ _ _ _ _, pw_below_drewN (below_alloc (Below.refl _ _) _) _⟩
  | true =>
    simp only [if_true] at h'
    obtain ⟨many, hmany, h2⟩ := Option.bind_eq_some_iff.1 h'
    obtain ⟨ps, hps, h3⟩ := Option.bind_eq_some_iff.1 h2
    obtain ⟨all, hall, h4⟩ := Option.bind_eq_some_iff.1 h3
    obtain ⟨fs, hfs, h5⟩ := Option.bind_eq_some_iff.1 h4
    have HM := Aside0.mk hmany
    have HP := Aside0.mk hps
    have HA := Aside0.mk hall
    have HF := Aside0.mk hfs
    have HL := Aside0.mk h5
    clear h' h2 h3 h4 h5 hmany hps hall hfs
    have b1 : (w.alloc (.cells #[.int .i64 a0] 3)).heap[w.heap.size]? = some (.cells #[.int .i64 a0] 3 (0, 0)) := blk_new _ _
    have HB1 := Aside0.mk b1
    clear b1
    go_enter Try.func23, Try.ntmps23
    go_wp2_with (first | ((with_reducible refine gate_callee (f := 41) rfl ?_); refine goesL_ (some 8) rfl rfl Try.func41 (by kernel_rfl) rfl #[.int .i64 a0, .int .i64 1, .int .i64 6] rfl (by (try simp only [List.map_toArray, List.map_cons, List.map_nil]); first | done | rfl | (simp only [List.length_drop, List.length_take]; rfl)) ?_; (with_reducible refine (impl_within.calls a0 1 6 true _ A2.out).mono ?_); rintro e w' ⟨rfl, ⟨nd1_, rfl⟩⟩; refine ⟨_, rfl, ?_⟩))
    obtain ⟨W3, hW3⟩ : ∃ W3, W3 = ((w.alloc (.cells #[.int .i64 a0] 3)).drewN nd1_) := ⟨_, rfl⟩
    rw [← hW3]
    have HG1_ : Aside0 (W3.heap[w.heap.size]? = some (.cells #[.int .i64 a0] 3 (0, 0))) := ⟨by rw [hW3]; exact blk_drewN HB1.out _⟩
    have HB3_ : Aside0 (Below w.heap.size w W3) := ⟨by rw [hW3]; repeat (first | exact Below.refl _ _ | apply below_alloc | apply pw_below_drewN | apply below_drew1)⟩
    clear HB1 hW3
    have hS3 : W3.drew.cell? ⟨w.heap.size, 0, none⟩ = some (.int .i64 a0) := (blk_cell HG1_.out 0).trans rfl
    refine start_ (n := 9) (S := fun w' => w'.cell? ⟨w.heap.size, 0, none⟩ = some (.int .i64 a0)) (ds := []) #[false, false, false, false, false, false, false, false, false] (by kernel_rfl) rfl rfl hS3 (fun hHeld => ?_); refine with_tabW impl_FirstRounds.tab3 impl_FirstRounds.bits3 (fun HT_ HW_ => ?_)
    refine take_ (i := 0) (N := some 10) (v := ?_) (a' := ?_) #[true, false, false, false, false, false, false, false, false] rfl rfl (take_ofW HT_.out HW_.out (by kernel_rfl)) (fun _ _ _ h => h) (Or.inl ⟨by rfl, ?_⟩) hHeld ?_ ?_
    rotate_left
    · rintro w' t0_
      go_simp
      with_reducible rfl
    (rotate_left; simp only [Act.put, List.setIfInBounds_toArray, List.set_cons_zero, List.set_cons_succ, i64_w, i32_w]; rfl)
    refine take_ (i := 2) (N := some 12) (v := ?_) (a' := ?_) #[true, false, true, false, false, false, false, false, false] rfl rfl (take_ofW HT_.out HW_.out (by kernel_rfl)) (fun _ _ _ h => h) (Or.inl ⟨by rfl, ?_⟩) hHeld ?_ ?_
    rotate_left
    · rintro w' t0_
      go_simp
      with_reducible rfl
    (rotate_left; simp only [Act.put, List.setIfInBounds_toArray, List.set_cons_zero, List.set_cons_succ, i64_w, i32_w]; rfl)
    refine Go.Proofs.Ytnlmalicpckfbaa.H.walk_ HT_.out (fun l a W => ∃ (c1 c3 c4 x5 x6 : Bool) (v4 v5 v11 v13 v14 : Value), l = [true, c1, true, c3, c4, x5, x6, false, false] ∧ (c3 = true → c1 = true) ∧ (c4 = true → c3 = true) ∧
        a = { tmps := #[.int .i64 a0, .pointer (some ⟨w.heap.size, 0, none⟩), .slice none 0 0, .bool false, v4, v5, undef, .int .i64 a0, .bool true, .bool false, .int .i64 a0, v11, .int .i64 a0, v13, v14, undef, undef, undef, undef, undef, undef, undef, undef], defers := [] } ∧
        Below W3.heap.size W3 W ∧ (c1 = true → v11 = .int .i64 many) ∧ (c3 = true → Kd.R k68 68 W W3.heap.size (fun _ => True) v13 ps) ∧ (c4 = true → Kd.S (Kd.slice 68 k68) 25 W W3.heap.size (fun _ => True) v14 all) ∧
        (x5 = true → ∃ g, W3.heap.size ≤ g ∧ v4 = .pointer (some ⟨g, 0, none⟩) ∧ W.heap[g]? = some (.cells #[.int .i64 0] 3 (0, 0))) ∧ (x6 = true → ∃ g, W3.heap.size ≤ g ∧ v5 = .pointer (some ⟨g, 0, none⟩) ∧ W.heap[g]? = some (.cells #[.slice none 0 0] 35 (0, 0))))
      [true, true, true, true, true, true, true, false, false] ?hS ?hstep ?hne ?hstop 7 [true, false, true, false, false, false, false, false, false] _ _ rfl ⟨false, false, false, false, false, undef, undef, undef, undef, undef, rfl, by simp, by simp, rfl, Below.refl _ _ |> below_drew1, by simp, by simp, by simp, by simp, by simp⟩
    case hS =>
      rintro l a W ⟨c1, c3, c4, x5, x6, v4, v5, v11, v13, v14, rfl, hc1, hc3, rfl, hb, -⟩
      exact (blk_cell (blk_below HG1_.out hb) 0).trans rfl
    case hne =>
      rintro l a W hl ⟨c1, c3, c4, x5, x6, v4, v5, v11, v13, v14, rfl, hc1, hc3, rfl, hb, -⟩
      revert hl hc1 hc3
      clear hb
      cases c1 <;> cases c3 <;> cases c4 <;> cases x5 <;> cases x6 <;> decide
    case hstep =>
      rintro l a W i hl ⟨c1, c3, c4, x5, x6, v4, v5, v11, v13, v14, rfl, hc1, hc3, rfl, hb, h1, h2, h3, h4, h5⟩ hr
      have hi : i < 9 := by
        rcases Nat.lt_or_ge i 9 with h | h
        · exact h
        · exfalso
          have := Go.Proofs.Ytnlmalicpckfbaa.H.ready_false hr
          rw [List.getD_eq_getElem?_getD, List.getElem?_eq_none (by simpa using h)] at this
          cases this
      have hi2 : i = 0 ∨ i = 1 ∨ i = 2 ∨ i = 3 ∨ i = 4 ∨ i = 5 ∨ i = 6 ∨ i = 7 ∨ i = 8 := by omega
      rcases hi2 with rfl | rfl | rfl | rfl | rfl | rfl | rfl | rfl | rfl
      · exact absurd (Go.Proofs.Ytnlmalicpckfbaa.H.ready_false hr) (by simp)
      · obtain rfl : c1 = false := Go.Proofs.Ytnlmalicpckfbaa.H.ready_false hr
        refine ⟨_, some 11, rfl, rfl, fun K hK => ?_⟩
        refine goes_ Try.func42 (by kernel_rfl) rfl #[.int .i64 a0] (by rfl) rfl rfl (by (try simp only [List.map_toArray, List.map_cons, List.map_nil]); first | done | rfl) ?_
        with_reducible refine (impl_fewestRounds.calls k a0 many _ HM.out).mono ?_
        rintro e w' ⟨rfl, ⟨nd, rfl⟩⟩
        refine ⟨_, rfl, hK _ _ ⟨true, c3, c4, x5, x6, v4, v5, _, v13, v14, rfl, fun _ => rfl, hc3, rfl, pw_below_drewN hb _, fun _ => rfl, fun hx => Kd.R_drewN (h2 hx) _, fun hx => Kd.S_drewN (h3 hx) _, h4, h5⟩⟩
      · exact absurd (Go.Proofs.Ytnlmalicpckfbaa.H.ready_false hr) (by simp)
      · obtain rfl : c3 = false := Go.Proofs.Ytnlmalicpckfbaa.H.ready_false hr
        obtain rfl : c4 = false := by cases c4 with | false => rfl | true => exact absurd (hc3 rfl) (by simp)
        obtain rfl : c1 = true := by
          clear hb h1 h2 h3 h4 h5
          revert hr
          cases c1 <;> cases x5 <;> cases x6 <;> decide
        refine ⟨_, some 13, rfl, rfl, fun K hK => ?_⟩
        refine goes_ Try.func49 (by kernel_rfl) rfl #[.int .i64 a0] (by rfl) rfl rfl (by (try simp only [List.map_toArray, List.map_cons, List.map_nil]); first | done | rfl) ?_
        with_reducible refine (impl_allPairs.calls k a0 ps _ HP.out).mono ?_
        rintro e w' ⟨v0, rfl, ho, hb2⟩
        refine ⟨_, rfl, hK _ _ ⟨true, true, false, x5, x6, v4, v5, v11, _, v14, rfl, fun _ => rfl, fun _ => rfl, rfl, below_step hb hb2, h1, fun _ => Kd.R_lower ho (below_size hb), fun hx => (by cases hx), fun hx => ?_, fun hx => ?_⟩⟩
        · obtain ⟨g, q1, q2, q3⟩ := h4 hx
          exact ⟨g, q1, q2, blk_below q3 hb2⟩
        · obtain ⟨g, q1, q2, q3⟩ := h5 hx
          exact ⟨g, q1, q2, blk_below q3 hb2⟩
      · obtain rfl : c4 = false := Go.Proofs.Ytnlmalicpckfbaa.H.ready_false hr
        obtain rfl : c3 = true := by
          clear hb h1 h2 h3 h4 h5
          revert hr
          cases c1 <;> cases c3 <;> cases x5 <;> cases x6 <;> decide
        obtain rfl : c1 = true := hc1 rfl
        obtain ⟨A, c, rfl⟩ := Kd.R_slice (h2 rfl)
        refine ⟨_, some 14, rfl, rfl, fun K hK => ?_⟩
        refine goes_ Try.func59 (by kernel_rfl) rfl #[.slice A ps.length c] (by rfl) rfl rfl (by (try simp only [List.map_toArray, List.map_cons, List.map_nil]); first | done | rfl) ?_
        with_reducible refine (impl_matchings.calls k A c ps all _ (Kd.R_reads' (h2 rfl)).2.2 (Kd.R_reads' (h2 rfl)).2.1 HA.out).mono ?_
        rintro e w' ⟨v0, rfl, ho, hb2⟩
        refine ⟨_, rfl, hK _ _ ⟨true, true, true, x5, x6, v4, v5, v11, _, _, rfl, fun _ => rfl, fun _ => rfl, rfl, below_step hb hb2, h1, fun _ => Kd.R_below (h2 rfl) hb2, fun _ => Kd.S_lower ho (below_size hb), fun hx => ?_, fun hx => ?_⟩⟩
        · obtain ⟨g, q1, q2, q3⟩ := h4 hx
          exact ⟨g, q1, q2, blk_below q3 hb2⟩
        · obtain ⟨g, q1, q2, q3⟩ := h5 hx
          exact ⟨g, q1, q2, blk_below q3 hb2⟩
      · obtain rfl : x5 = false := Go.Proofs.Ytnlmalicpckfbaa.H.ready_false hr
        refine ⟨_, some 4, rfl, rfl, fun K hK => ?_⟩
        refine value_ (w1 := W.alloc (.cells #[.int .i64 0] 3)) (v := .pointer (some ⟨W.heap.size, 0, none⟩)) (by rfl) rfl (by first | (go_simp; done) | (go_simp; rfl)) ?_
        refine hK _ _ ⟨c1, c3, c4, true, x6, _, v5, v11, v13, v14, rfl, hc1, hc3, rfl, below_alloc hb _, h1, fun hx => Kd.R_alloc (h2 hx) _, fun hx => Kd.S_alloc (h3 hx) _, fun _ => ⟨W.heap.size, below_size hb, rfl, blk_new _ _⟩, fun hx => ?_⟩
        obtain ⟨g, q1, q2, q3⟩ := h5 hx
        exact ⟨g, q1, q2, blk_alloc q3 _⟩
      · obtain rfl : x6 = false := Go.Proofs.Ytnlmalicpckfbaa.H.ready_false hr
        refine ⟨_, some 5, rfl, rfl, fun K hK => ?_⟩
        refine value_ (w1 := W.alloc (.cells #[.slice none 0 0] 35)) (v := .pointer (some ⟨W.heap.size, 0, none⟩)) (by rfl) rfl (by first | (go_simp; done) | (go_simp; rfl)) ?_
        refine hK _ _ ⟨c1, c3, c4, x5, true, v4, _, v11, v13, v14, rfl, hc1, hc3, rfl, below_alloc hb _, h1, fun hx => Kd.R_alloc (h2 hx) _, fun hx => Kd.S_alloc (h3 hx) _, fun hx => ?_, fun _ => ⟨W.heap.size, below_size hb, rfl, blk_new _ _⟩⟩
        obtain ⟨g, q1, q2, q3⟩ := h4 hx
        exact ⟨g, q1, q2, blk_alloc q3 _⟩
      · exfalso
        clear hb h1 h2 h3 h4 h5
        revert hr hl hc1 hc3
        cases c1 <;> cases c3 <;> cases c4 <;> cases x5 <;> cases x6 <;> decide
      · exfalso
        clear hb h1 h2 h3 h4 h5
        revert hr hl hc1 hc3
        cases c1 <;> cases c3 <;> cases c4 <;> cases x5 <;> cases x6 <;> decide
    case hstop =>
      rintro a W ⟨c1, c3, c4, x5, x6, v4, v5, v11, v13, v14, hl, -, -, rfl, hb, h1, h2, h3, h4, h5⟩
      simp only [List.cons.injEq, true_and, and_true] at hl
      obtain ⟨rfl, rfl, rfl, rfl, rfl⟩ := hl
      obtain rfl := h1 rfl
      have o13 := h2 rfl
      have o14 := h3 rfl
      obtain ⟨g4, b4, rfl, k4⟩ := h4 rfl
      obtain ⟨g5, b5, rfl, k5⟩ := h5 rfl
      obtain ⟨AA, cA, rfl⟩ := Kd.S_slice o14
      clear h1 h2 h3 h4 h5 o13
      have n45 : g5 ≠ g4 := by
        rintro rfl
        rw [k4] at k5
        injection k5 with k5
        injection k5 with _ k5
        exact absurd k5 (by decide)
      have c4_ := (blk_cell k4 0).trans rfl
      have f4_ := blk_frozen k4 0
      refine one_ (i := 7) (N := none) #[true, true, true, true, true, true, true, true, false] rfl rfl (one_of HT_.out (by kernel_rfl)) (by simp) (fun K hK => ?_)
      refine skip_ (w1 := W.setCell ⟨g4, 0, none⟩ (.int .i64 many)) (by rfl) rfl (by first | (go_simp; done) | (go_simp; rfl)) ?_
      have HBw := Below.setCell hb (p := ⟨g4, 0, none⟩) b4 (.int .i64 many)
      have K4 := blk_set k4 0 (.int .i64 many)
      have K5 : (W.setCell ⟨g4, 0, none⟩ (.int .i64 many)).heap[g5]? = _ := (Below.heap_setCell W ⟨g4, 0, none⟩ (.int .i64 many) g5 n45).trans k5
      have O14 := Kd.S_set o14 k4 (by decide) 0 (.int .i64 many)
      generalize W.setCell ⟨g4, 0, none⟩ (.int .i64 many) = W4 at *
      clear hb k4 k5 o14 c4_ f4_
      refine hK.out _ _ ((blk_cell (blk_below HG1_.out HBw) 0).trans rfl) (fun hHeld => ?_)
      clear hK K
      have c5_ := (blk_cell K5 0).trans rfl
      have f5_ := blk_frozen K5 0
      refine one_ (i := 8) (N := none) #[true, true, true, true, true, true, true, true, true] rfl rfl (one_of HT_.out (by kernel_rfl)) (by simp) (fun K hK => ?_)
      refine skip_ (w1 := W4.setCell ⟨g5, 0, none⟩ (.slice AA all.length cA)) (by rfl) rfl (by first | (go_simp; done) | (go_simp; rfl)) ?_
      have HB5 := Below.setCell HBw (p := ⟨g5, 0, none⟩) b5 (.slice AA all.length cA)
      have K55 := blk_set K5 0 (.slice AA all.length cA)
      have K45 : (W4.setCell ⟨g5, 0, none⟩ (.slice AA all.length cA)).heap[g4]? = _ := (Below.heap_setCell W4 ⟨g5, 0, none⟩ (.slice AA all.length cA) g4 (fun e_ => n45 e_.symm)).trans K4
      have O5 := Kd.S_set O14 K5 (by decide) 0 (.slice AA all.length cA)
      generalize W4.setCell ⟨g5, 0, none⟩ (.slice AA all.length cA) = W5 at *
      clear HBw K4 K5 O14 c5_ f5_ hHeld hS3
      refine hK.out _ _ ((blk_cell (blk_below HG1_.out HB5) 0).trans rfl) (fun hHeld => ?_)
      clear hK K
      refine done_ (done_of HT_.out (by kernel_rfl)) ?_
      have HBB := Aside0.mk HB5
      have HK5 := Aside0.mk K55
      have HK4 := Aside0.mk K45
      have HO5 := Aside0.mk O5
      have HN := Aside0.mk n45
      have B4 := Aside0.mk b4
      have B5 := Aside0.mk b5
      clear HB5 K55 K45 O5 n45 b4 b5 hHeld HT_ HW_
      go_wp2_with fail
      obtain ⟨W6, hW6⟩ : ∃ W6, W6 = (W5.alloc (.cells #[.func (.func 60) #[] #[.pointer (some ⟨g4, 0, none⟩), .pointer (some ⟨w.heap.size, 0, none⟩), .pointer (some ⟨g5, 0, none⟩), .pointer (some ⟨W5.heap.size, 0, none⟩)]] 82)) := ⟨_, rfl⟩
      rw [← hW6]
      have HG0_ : Aside0 (W6.cell? ⟨g4, 0, none⟩ = some (.int .i64 many)) := ⟨by rw [hW6]; exact (blk_cell (blk_alloc HK4.out _) 0).trans rfl⟩
      have HGq : Aside0 (W6.cell? ⟨w.heap.size, 0, none⟩ = some (.int .i64 a0)) := ⟨by rw [hW6]; exact (blk_cell (blk_alloc (blk_below HG1_.out HBB.out) _) 0).trans rfl⟩
      have HG2_ : Aside0 (W6.cell? ⟨g5, 0, none⟩ = some (.slice AA all.length cA)) := ⟨by rw [hW6]; exact (blk_cell (blk_alloc HK5.out _) 0).trans rfl⟩
      have HG3_ : Aside0 (W6.cell? ⟨W5.heap.size, 0, none⟩ = some (.func (.func 60) #[] #[.pointer (some ⟨g4, 0, none⟩), .pointer (some ⟨w.heap.size, 0, none⟩), .pointer (some ⟨g5, 0, none⟩), .pointer (some ⟨W5.heap.size, 0, none⟩)])) := ⟨by rw [hW6]; exact (blk_cell (blk_new W5 _) 0).trans rfl⟩
      have HO6 : Aside0 (Kd.S (Kd.slice 68 k68) 25 W6 W3.heap.size (fun _ => True) (.slice AA all.length cA) all) := ⟨by rw [hW6]; exact Kd.S_alloc HO5.out _⟩
      have HB6_ : Aside0 (Below w.heap.size w W6) := ⟨by rw [hW6]; exact below_alloc (below_step HB3_.out HBB.out) _⟩
      clear HG1_
      have HG1_ := HGq
      clear HGq hW6 HBB HK5 HK4 HO5
      have HB := Aside0.mk (below_drew1 (Below.refl W6.heap.size W6))
      refine start_ (n := 9) (S := fun w' => w'.cell? ⟨w.heap.size, 0, none⟩ = some (.int .i64 a0) ∧ w'.cell? ⟨W5.heap.size, 0, none⟩ = some (.func (.func 60) #[] #[.pointer (some ⟨g4, 0, none⟩), .pointer (some ⟨w.heap.size, 0, none⟩), .pointer (some ⟨g5, 0, none⟩), .pointer (some ⟨W5.heap.size, 0, none⟩)])) (ds := []) #[false, false, false, false, false, false, false, false, false] (by kernel_rfl) rfl rfl ⟨Go.Proofs.Ytnlmalicpckfbaa.H.cell_b (by repeat (first | (with_reducible first | exact HB.out | apply below_alloc | apply pw_below_drewN | apply below_drew1) | exact HB.out)) HG1_.out, Go.Proofs.Ytnlmalicpckfbaa.H.cell_b (by repeat (first | (with_reducible first | exact HB.out | apply below_alloc | apply pw_below_drewN | apply below_drew1) | exact HB.out)) HG3_.out⟩ (fun hHeld => ?_); refine with_tabW impl_FirstRounds.tab6 impl_FirstRounds.bits6 (fun HT_ HW_ => ?_)
      generalize W6.drew = w7 at HB hHeld ⊢
      refine take_ (i := 0) (N := some 16) (v := ?_) (a' := ?_) #[true, false, false, false, false, false, false, false, false] rfl rfl (take_ofW HT_.out HW_.out (by kernel_rfl)) (fun _ _ _ h => h) (Or.inl ⟨by rfl, ?_⟩) hHeld ?_ ?_
      rotate_left
      · rintro w' ⟨t0_, t1_⟩
        go_simp
        with_reducible rfl
      (rotate_left; simp only [Act.put, List.setIfInBounds_toArray, List.set_cons_zero, List.set_cons_succ, i64_w, i32_w]; rfl)
      refine take_ (i := 2) (N := some 18) (v := ?_) (a' := ?_) #[true, false, true, false, false, false, false, false, false] rfl rfl (take_ofW HT_.out HW_.out (by kernel_rfl)) (fun _ _ _ h => h) (Or.inl ⟨by rfl, ?_⟩) hHeld ?_ ?_
      rotate_left
      · rintro w' ⟨t0_, t1_⟩
        go_simp
        with_reducible rfl
      (rotate_left; simp only [Act.put, List.setIfInBounds_toArray, List.set_cons_zero, List.set_cons_succ, i64_w, i32_w]; rfl)
      refine join_ (σ := Value × Value) 5 #[true, true, true, true, false, false, false, false, false] (fun s_ => [(17, s_.1), (19, s_.2)]) (fun s_ w' => (w'.cell? ⟨w.heap.size, 0, none⟩ = some (.int .i64 a0) ∧ w'.cell? ⟨W5.heap.size, 0, none⟩ = some (.func (.func 60) #[] #[.pointer (some ⟨g4, 0, none⟩), .pointer (some ⟨w.heap.size, 0, none⟩), .pointer (some ⟨g5, 0, none⟩), .pointer (some ⟨W5.heap.size, 0, none⟩)])) ∧ (Kd.S (Kd.slice 68 k68) 25 w' W6.heap.size (fun _ => True) s_.1 []) ∧ (Kd.R (Kd.int .u16) 69 w' W6.heap.size (fun _ => True) s_.2 fs) ∧ (Below W6.heap.size W6 w')) ?_ ?_
      rotate_left
      · intro hCont
        refine two_ (i := 1) (j := 3) (Ni := some 17) (Nj := some 19) #[true, true, true, false, false, false, false, false, false] #[true, false, true, true, false, false, false, false, false] rfl rfl rfl rfl (two_of HT_.out (by kernel_rfl)) (by decide) (by decide) (fun K hK => ?_) (fun K hK => ?_)
        · refine Kd.S_lit_step (Kd.slice 68 k68) _ 25 ?hg (N := 17) ?hd (xs := ([] : List (List (S68)))) (inner := []) (ok := fun _ => True) (okp := fun _ => True) ?hr ?hp (fun _ hk => hk) trivial (Below.refl _ _) (Nat.le_refl _) (by simp) ?_; (case hd => rfl); (case hg => rfl); (case hr => first | (go_simp; done) | (go_simp; rfl)); (case hp => exact (Reps.none _ _))
          intro v204 w9 ho10 hb hg_ hnew_
          clear hg_ hnew_
          have n1_ := Aside0.mk (Kd.S_lower ho10 (below_size (by repeat (first | (with_reducible first | exact HB.out | apply below_alloc | apply pw_below_drewN | apply below_drew1) | exact HB.out))))
          have n2_ := Aside0.mk (below_step (by repeat (first | (with_reducible first | exact HB.out | apply below_alloc | apply pw_below_drewN | apply below_drew1) | exact HB.out)) hb)
          clear HB
          have HO205 := n1_
          have HB := n2_
          clear n1_ n2_
          clear hb ho10
          refine hK.out _ _ ⟨Go.Proofs.Ytnlmalicpckfbaa.H.cell_b (by repeat (first | (with_reducible first | exact HB.out | apply below_alloc | apply pw_below_drewN | apply below_drew1) | exact HB.out)) HG1_.out, Go.Proofs.Ytnlmalicpckfbaa.H.cell_b (by repeat (first | (with_reducible first | exact HB.out | apply below_alloc | apply pw_below_drewN | apply below_drew1) | exact HB.out)) HG3_.out⟩ (fun hHeld => ?_)
          clear hK K
          refine norm_ (a' := ?_) ?_ ?_
          rotate_left
          · show Act.put _ (some 17) _ = _
            simp only [Act.put, List.setIfInBounds_toArray, List.set_cons_zero, List.set_cons_succ, i64_w, i32_w]
            rfl
          refine one_ (i := 3) (N := some 19) #[true, true, true, true, false, false, false, false, false] rfl rfl (one_of HT_.out (by kernel_rfl)) (by decide) (fun K hK => ?_)
          refine goes_ Try.func53 (by kernel_rfl) rfl #[.int .i64 a0] (by rfl) rfl rfl (by (try simp only [List.map_toArray, List.map_cons, List.map_nil]); first | done | rfl | (simp only [List.length_drop, List.length_take]; rfl)) ?_
          with_reducible refine (impl_first.calls k a0 fs _ HF.out).mono ?_
          rintro e w10 ⟨v207, rfl, ho0, hb⟩
          refine ⟨_, rfl, ?_⟩
          have n0_ := Aside0.mk (Kd.S_below HO205.out hb)
          clear HO205
          have HO205 := n0_
          clear n0_
          have n1_ := Aside0.mk (Kd.R_lower ho0 (below_size (by repeat (first | (with_reducible first | exact HB.out | apply below_alloc | apply pw_below_drewN | apply below_drew1) | exact HB.out))))
          have n2_ := Aside0.mk (below_step (by repeat (first | (with_reducible first | exact HB.out | apply below_alloc | apply pw_below_drewN | apply below_drew1) | exact HB.out)) hb)
          clear HB
          have HO208 := n1_
          have HB := n2_
          clear n1_ n2_
          clear hb ho0
          refine hK.out _ _ ⟨Go.Proofs.Ytnlmalicpckfbaa.H.cell_b (by repeat (first | (with_reducible first | exact HB.out | apply below_alloc | apply pw_below_drewN | apply below_drew1) | exact HB.out)) HG1_.out, Go.Proofs.Ytnlmalicpckfbaa.H.cell_b (by repeat (first | (with_reducible first | exact HB.out | apply below_alloc | apply pw_below_drewN | apply below_drew1) | exact HB.out)) HG3_.out⟩ (fun hHeld => ?_)
          clear hK K
          refine norm_ (a' := ?_) ?_ ?_
          rotate_left
          · show Act.put _ (some 19) _ = _
            simp only [Act.put, List.setIfInBounds_toArray, List.set_cons_zero, List.set_cons_succ, i64_w, i32_w]
            rfl
          exact norm_ (by simp only [putAll, Act.put, List.setIfInBounds_toArray, List.set_cons_zero, List.set_cons_succ]) (hCont (v204, v207) _ ⟨hHeld, HO205.out, HO208.out, (by repeat (first | (with_reducible first | exact HB.out | apply below_alloc | apply pw_below_drewN | apply below_drew1) | exact HB.out))⟩)
        · refine goes_ Try.func53 (by kernel_rfl) rfl #[.int .i64 a0] (by rfl) rfl rfl (by (try simp only [List.map_toArray, List.map_cons, List.map_nil]); first | done | rfl | (simp only [List.length_drop, List.length_take]; rfl)) ?_
          with_reducible refine (impl_first.calls k a0 fs _ HF.out).mono ?_
          rintro e w10 ⟨v207, rfl, ho0, hb⟩
          refine ⟨_, rfl, ?_⟩
          have n1_ := Aside0.mk (Kd.R_lower ho0 (below_size (by repeat (first | (with_reducible first | exact HB.out | apply below_alloc | apply pw_below_drewN | apply below_drew1) | exact HB.out))))
          have n2_ := Aside0.mk (below_step (by repeat (first | (with_reducible first | exact HB.out | apply below_alloc | apply pw_below_drewN | apply below_drew1) | exact HB.out)) hb)
          clear HB
          have HO208 := n1_
          have HB := n2_
          clear n1_ n2_
          clear hb ho0
          refine hK.out _ _ ⟨Go.Proofs.Ytnlmalicpckfbaa.H.cell_b (by repeat (first | (with_reducible first | exact HB.out | apply below_alloc | apply pw_below_drewN | apply below_drew1) | exact HB.out)) HG1_.out, Go.Proofs.Ytnlmalicpckfbaa.H.cell_b (by repeat (first | (with_reducible first | exact HB.out | apply below_alloc | apply pw_below_drewN | apply below_drew1) | exact HB.out)) HG3_.out⟩ (fun hHeld => ?_)
          clear hK K
          refine norm_ (a' := ?_) ?_ ?_
          rotate_left
          · show Act.put _ (some 19) _ = _
            simp only [Act.put, List.setIfInBounds_toArray, List.set_cons_zero, List.set_cons_succ, i64_w, i32_w]
            rfl
          refine one_ (i := 1) (N := some 17) #[true, true, true, true, false, false, false, false, false] rfl rfl (one_of HT_.out (by kernel_rfl)) (by decide) (fun K hK => ?_)
          refine Kd.S_lit_step (Kd.slice 68 k68) _ 25 ?hg (N := 17) ?hd (xs := ([] : List (List (S68)))) (inner := []) (ok := fun _ => True) (okp := fun _ => True) ?hr ?hp (fun _ hk => hk) trivial (Below.refl _ _) (Nat.le_refl _) (by simp) ?_; (case hd => rfl); (case hg => rfl); (case hr => first | (go_simp; done) | (go_simp; rfl)); (case hp => exact (Reps.none _ _))
          intro v204 w9 ho10 hb hg_ hnew_
          clear hg_ hnew_
          have n0_ := Aside0.mk (Kd.R_below HO208.out hb)
          clear HO208
          have HO208 := n0_
          clear n0_
          have n1_ := Aside0.mk (Kd.S_lower ho10 (below_size (by repeat (first | (with_reducible first | exact HB.out | apply below_alloc | apply pw_below_drewN | apply below_drew1) | exact HB.out))))
          have n2_ := Aside0.mk (below_step (by repeat (first | (with_reducible first | exact HB.out | apply below_alloc | apply pw_below_drewN | apply below_drew1) | exact HB.out)) hb)
          clear HB
          have HO205 := n1_
          have HB := n2_
          clear n1_ n2_
          clear hb ho10
          refine hK.out _ _ ⟨Go.Proofs.Ytnlmalicpckfbaa.H.cell_b (by repeat (first | (with_reducible first | exact HB.out | apply below_alloc | apply pw_below_drewN | apply below_drew1) | exact HB.out)) HG1_.out, Go.Proofs.Ytnlmalicpckfbaa.H.cell_b (by repeat (first | (with_reducible first | exact HB.out | apply below_alloc | apply pw_below_drewN | apply below_drew1) | exact HB.out)) HG3_.out⟩ (fun hHeld => ?_)
          clear hK K
          refine norm_ (a' := ?_) ?_ ?_
          rotate_left
          · show Act.put _ (some 17) _ = _
            simp only [Act.put, List.setIfInBounds_toArray, List.set_cons_zero, List.set_cons_succ, i64_w, i32_w]
            rfl
          exact norm_ (by simp only [putAll, Act.put, List.setIfInBounds_toArray, List.set_cons_zero, List.set_cons_succ]) (hCont (v204, v207) _ ⟨hHeld, HO205.out, HO208.out, (by repeat (first | (with_reducible first | exact HB.out | apply below_alloc | apply pw_below_drewN | apply below_drew1) | exact HB.out))⟩)
      rintro ⟨v204, v207⟩ w11 ⟨hS_, h0_, h1_, h2_⟩
      have HO205 := Aside0.mk h0_
      have HO208 := Aside0.mk h1_
      clear HB
      have HB := Aside0.mk h2_
      clear h0_ h1_ h2_
      have hHeld := hS_
      obtain ⟨Ao12, co12, rfl⟩ := Kd.S_slice HO205.out
      obtain ⟨Ao13, co13, rfl⟩ := Kd.R_slice HO208.out
      refine norm_ (a' := ?_) ?_ ?_
      rotate_left
      · simp only [putAll, Act.put, List.setIfInBounds_toArray, List.set_cons_zero, List.set_cons_succ]
        rfl
      refine one_ (i := 4) (N := some 20) #[true, true, true, true, true, false, false, false, false] rfl rfl (one_of HT_.out (by kernel_rfl)) (by decide) (fun K hK => ?_)
      refine Go.Proofs.Ytnlmalicpckfbaa.H.goesW_ (Operand.tmp 16) Try.func60 (by kernel_rfl) rfl #[.slice Ao12 ([] : List (List (S68))).length co12, .slice Ao13 fs.length co13] #[.pointer (some ⟨g4, 0, none⟩), .pointer (some ⟨w.heap.size, 0, none⟩), .pointer (some ⟨g5, 0, none⟩), .pointer (some ⟨W5.heap.size, 0, none⟩)] #[.slice Ao12 ([] : List (List (S68))).length co12, .slice Ao13 fs.length co13, .pointer (some ⟨g4, 0, none⟩), .pointer (some ⟨w.heap.size, 0, none⟩), .pointer (some ⟨g5, 0, none⟩), .pointer (some ⟨W5.heap.size, 0, none⟩)] (by rfl) rfl rfl rfl rfl (by (try simp only [List.map_toArray, List.map_cons, List.map_nil]); first | done | rfl | (simp only [List.length_drop, List.length_take]; rfl)) ?_
      refine (impl_FirstRoundsLit1.calls k W6.heap.size (fun _ => True) Ao12 co12 [] Ao13 co13 fs many a0 AA cA all 0 r1 r2 _ (below_size HB.out) HO205.out (Kd.R_reads' HO208.out).2.2 (Kd.R_reads' HO208.out).2.1 (Kd.S_reads' (Kd.S_below HO6.out HB.out)).2.2 (Kd.S_reads' HO6.out).2.1 HL.out g4 w.heap.size g5 W5.heap.size (Go.Proofs.Ytnlmalicpckfbaa.H.cell_b HB.out HG0_.out) (Go.Proofs.Ytnlmalicpckfbaa.H.cell_b HB.out HG1_.out) (Go.Proofs.Ytnlmalicpckfbaa.H.cell_b HB.out HG2_.out) (Go.Proofs.Ytnlmalicpckfbaa.H.cell_b HB.out HG3_.out)).mono ?_
      rintro e w14 ⟨v210, rfl, ho0, hb⟩
      refine ⟨_, rfl, ?_⟩
      have n0_ := Aside0.mk (below_step HB.out hb)
      clear HB
      have HB := n0_
      have HO211 := Aside0.mk ho0
      clear n0_ hb ho0
      refine hK.out _ _ ⟨Go.Proofs.Ytnlmalicpckfbaa.H.cell_b (by repeat (first | (with_reducible first | exact HB.out | apply below_alloc | apply pw_below_drewN | apply below_drew1) | exact HB.out)) HG1_.out, Go.Proofs.Ytnlmalicpckfbaa.H.cell_b (by repeat (first | (with_reducible first | exact HB.out | apply below_alloc | apply pw_below_drewN | apply below_drew1) | exact HB.out)) HG3_.out⟩ (fun hHeld => ?_)
      clear hK K
      refine norm_ (a' := ?_) ?_ ?_
      rotate_left
      · show Act.put _ (some 20) _ = _
        simp only [Act.put, List.setIfInBounds_toArray, List.set_cons_zero, List.set_cons_succ, i64_w, i32_w]
        rfl
      refine pure_ (i := 5) (N := some 21) (v := ?_) (a' := ?_) #[true, true, true, true, true, true, false, false, false] rfl rfl (any_of HT_.out (by kernel_rfl)) (fun _ _ _ h => h) (Or.inl ⟨by rfl, ?_⟩) ?_ ?_
      (rotate_left; intro w'; go_simp; with_reducible rfl; rotate_left; simp only [Act.put, List.setIfInBounds_toArray, List.set_cons_zero, List.set_cons_succ, i64_w, i32_w]; rfl)
      refine pure_ (i := 6) (N := some 22) (v := ?_) (a' := ?_) #[true, true, true, true, true, true, true, false, false] rfl rfl (any_of HT_.out (by kernel_rfl)) (fun _ _ _ h => h) (Or.inl ⟨by rfl, ?_⟩) ?_ ?_
      (rotate_left; intro w'; go_simp; with_reducible rfl; rotate_left; simp only [Act.put, List.setIfInBounds_toArray, List.set_cons_zero, List.set_cons_succ, i64_w, i32_w]; rfl)
      refine pure_ (i := 7) (N := some 2) (v := ?_) (a' := ?_) #[true, true, true, true, true, true, true, true, false] rfl rfl (any_of HT_.out (by kernel_rfl)) (fun _ _ _ h => h) (Or.inl ⟨by rfl, ?_⟩) ?_ ?_
      (rotate_left; intro w'; go_simp; with_reducible rfl; rotate_left; simp only [Act.put, List.setIfInBounds_toArray, List.set_cons_zero, List.set_cons_succ, i64_w, i32_w]; rfl)
      refine pure_ (i := 8) (N := some 3) (v := ?_) (a' := ?_) #[true, true, true, true, true, true, true, true, true] rfl rfl (any_of HT_.out (by kernel_rfl)) (fun _ _ _ h => h) (Or.inl ⟨by rfl, ?_⟩) ?_ ?_
      (rotate_left; intro w'; go_simp; with_reducible rfl; rotate_left; simp only [Act.put, List.setIfInBounds_toArray, List.set_cons_zero, List.set_cons_succ, i64_w, i32_w]; rfl)
      refine done_ (done_of HT_.out (by kernel_rfl)) ?_
      try go_wp2
      go_ret2
      exact ⟨_, rfl, Kd.S_mono (Kd.S_lower HO211.out (below_size HB6_.out)) (fun _ _ => trivial), below_step HB6_.out HB.out⟩

/-! ### laws_eqCall: function 54 -/
def laws_eqCall.f (a0_0 : Int) (a0_1 : Int) (a1_0 : Int) (a1_1 : Int) : Option (Bool) := if a0_0 = a1_0 then (if a0_1 = a1_1 then (some true) else (some false)) else (some false)
set_option maxHeartbeats 8000000 in
set_option maxRecDepth 100000 in
theorem laws_eqCall.calls (a0_0 : Int) (a0_1 : Int) (a1_0 : Int) (a1_1 : Int) (r : Bool) (w : World) (h : laws_eqCall.f a0_0 a0_1 a1_0 a1_1 = some r) :
    Calls Try.prog 54 #[.agg #[.int .i64 a0_0, .int .i64 a0_1], .agg #[.int .i64 a1_0, .int .i64 a1_1]] w fun e w' => e = .returned (.bool r) ∧ Below w.heap.size w w' := by
  have hu68 := Try.underlying68
  have HB := Aside0.mk (Below.refl w.heap.size w)
  have H : (if a0_0 = a1_0 then (if a0_1 = a1_1 then (some true) else (some false)) else (some false)) = some r := h
  clear h
  by_cases c3 : a0_0 = a1_0
  · rw [if_pos c3] at H
    have c3b0 : (a0_0 == a1_0) = true := beq_iff_eq.mpr c3
    have c3b1 : (a0_0 != a1_0) = false := bne_eq_false_iff_eq.mpr c3
    clear c3
    by_cases c4 : a0_1 = a1_1
    · rw [if_pos c4] at H
      have c4b0 : (a0_1 == a1_1) = true := beq_iff_eq.mpr c4
      have c4b1 : (a0_1 != a1_1) = false := bne_eq_false_iff_eq.mpr c4
      clear c4
      obtain rfl := Option.some.inj H
      go_enter Try.func54, Try.ntmps54
      go_wp2_with (first | ((with_reducible refine gate_dst (N := 2) rfl ?_); refine box_event ?hg (N := 2) ?hd (cs := #[.int .i64 a0_0, .int .i64 a0_1]) (t := 68) ?hr ?_; (case hd => rfl); (case hg => rfl); (case hr => first | (go_simp; done) | (go_simp; rfl)); intro gb268 hg w5 hbox hb; have n0_ := Aside0.mk (below_step (by repeat (first | (with_reducible first | exact HB.out | apply below_alloc | apply pw_below_drewN | apply below_drew1) | exact HB.out)) hb); have n1_ := Aside0.mk (hbox); have n2_ := Aside0.mk ((by rw [hg]; exact (below_size (by repeat (first | (with_reducible first | exact HB.out | apply below_alloc | apply pw_below_drewN | apply below_drew1) | exact HB.out))) : w.heap.size ≤ gb268)); have n3_ := Aside0.mk ((by rw [hg]; exact (below_size (by repeat (first | (with_reducible first | exact HB.out | apply below_alloc | apply pw_below_drewN | apply below_drew1) | exact HB.out))) : w.heap.size ≤ gb268)); clear HB; have HB := n0_; have BK268 := n1_; have GW268 := n2_; have GE268 := n3_; clear n0_ n1_ n2_ n3_; clear hb hbox hg) | ((with_reducible refine gate_dst (N := 3) rfl ?_); refine box_event ?hg (N := 3) ?hd (cs := #[.int .i64 a1_0, .int .i64 a1_1]) (t := 68) ?hr ?_; (case hd => rfl); (case hg => rfl); (case hr => first | (go_simp; done) | (go_simp; rfl)); intro gb269 hg w6 hbox hb; have n0_ := Aside0.mk (blk_below (g := gb268) (o := .cells #[.int .i64 a0_0, .int .i64 a0_1] 68 (0, 0)) (by (with_reducible repeat (first | refine blk_drewN ?_ _ | refine blk_drew ?_ | refine blk_alloc ?_ _)); exact BK268.out) hb); have n1_ := Aside0.mk (below_step (by repeat (first | (with_reducible first | exact HB.out | apply below_alloc | apply pw_below_drewN | apply below_drew1 | refine below_set ?_ GE268.out) | exact HB.out)) hb); have n2_ := Aside0.mk (hbox); have n3_ := Aside0.mk ((by rw [hg]; exact (below_size (by repeat (first | (with_reducible first | exact HB.out | apply below_alloc | apply pw_below_drewN | apply below_drew1 | refine below_set ?_ GE268.out) | exact HB.out))) : w.heap.size ≤ gb269)); have n4_ := Aside0.mk ((by rw [hg]; exact (below_size (by repeat (first | (with_reducible first | exact HB.out | apply below_alloc | apply pw_below_drewN | apply below_drew1 | refine below_set ?_ GE268.out) | exact HB.out))) : w.heap.size ≤ gb269)); have n5_ := Aside0.mk ((by rw [hg]; exact Nat.ne_of_lt (blk_lt (g := gb268) (o := .cells #[.int .i64 a0_0, .int .i64 a0_1] 68 (0, 0)) (by (with_reducible repeat (first | refine blk_drewN ?_ _ | refine blk_drew ?_ | refine blk_alloc ?_ _)); exact BK268.out)) : gb268 ≠ gb269)); have n6_ := Aside0.mk ((by rw [hg]; exact Nat.ne_of_gt (blk_lt (g := gb268) (o := .cells #[.int .i64 a0_0, .int .i64 a0_1] 68 (0, 0)) (by (with_reducible repeat (first | refine blk_drewN ?_ _ | refine blk_drew ?_ | refine blk_alloc ?_ _)); exact BK268.out)) : gb269 ≠ gb268)); clear BK268; clear HB; have BK268 := n0_; have HB := n1_; have BK269 := n2_; have GW269 := n3_; have GE269 := n4_; have NB268_269 := n5_; have NB269_268 := n6_; clear n0_ n1_ n2_ n3_ n4_ n5_ n6_; clear hb hbox hg; have hnb7 := NB268_269.out; have hnc7 := NB269_268.out; have hcz8_0 : w6.cell? ⟨gb268, 0, none⟩ = some (.int .i64 a0_0) := (blk_cell BK268.out 0).trans rfl; have hcz8_1 : w6.cell? ⟨gb268, 1, none⟩ = some (.int .i64 a0_1) := (blk_cell BK268.out 1).trans rfl; have hfz8_0 := blk_frozen BK268.out 0; have hfz8_1 := blk_frozen BK268.out 1; have hcz9_0 : w6.cell? ⟨gb269, 0, none⟩ = some (.int .i64 a1_0) := (blk_cell BK269.out 0).trans rfl; have hcz9_1 : w6.cell? ⟨gb269, 1, none⟩ = some (.int .i64 a1_1) := (blk_cell BK269.out 1).trans rfl; have hfz9_0 := blk_frozen BK269.out 0; have hfz9_1 := blk_frozen BK269.out 1))
      go_ret
      exact ⟨by first | rfl | (simp [errW_none, errW_some] <;> rfl) | (simp [*, errW_none, errW_some] <;> rfl), by repeat (first | (with_reducible first | exact HB.out | apply below_alloc | apply pw_below_drewN | apply below_drew1 | refine below_set ?_ GE268.out | refine below_set ?_ GE269.out) | exact HB.out)⟩
    · rw [if_neg c4] at H
      have c4b0 : (a0_1 == a1_1) = false := beq_eq_false_iff_ne.mpr c4
      have c4b1 : (a0_1 != a1_1) = true := bne_iff_ne.mpr c4
      obtain rfl := Option.some.inj H
      go_enter Try.func54, Try.ntmps54
      go_wp2_with (first | ((with_reducible refine gate_dst (N := 2) rfl ?_); refine box_event ?hg (N := 2) ?hd (cs := #[.int .i64 a0_0, .int .i64 a0_1]) (t := 68) ?hr ?_; (case hd => rfl); (case hg => rfl); (case hr => first | (go_simp; done) | (go_simp; rfl)); intro gb268 hg w10 hbox hb; have n0_ := Aside0.mk (below_step (by repeat (first | (with_reducible first | exact HB.out | apply below_alloc | apply pw_below_drewN | apply below_drew1) | exact HB.out)) hb); have n1_ := Aside0.mk (hbox); have n2_ := Aside0.mk ((by rw [hg]; exact (below_size (by repeat (first | (with_reducible first | exact HB.out | apply below_alloc | apply pw_below_drewN | apply below_drew1) | exact HB.out))) : w.heap.size ≤ gb268)); have n3_ := Aside0.mk ((by rw [hg]; exact (below_size (by repeat (first | (with_reducible first | exact HB.out | apply below_alloc | apply pw_below_drewN | apply below_drew1) | exact HB.out))) : w.heap.size ≤ gb268)); clear HB; have HB := n0_; have BK268 := n1_; have GW268 := n2_; have GE268 := n3_; clear n0_ n1_ n2_ n3_; clear hb hbox hg) | ((with_reducible refine gate_dst (N := 3) rfl ?_); refine box_event ?hg (N := 3) ?hd (cs := #[.int .i64 a1_0, .int .i64 a1_1]) (t := 68) ?hr ?_; (case hd => rfl); (case hg => rfl); (case hr => first | (go_simp; done) | (go_simp; rfl)); intro gb269 hg w11 hbox hb; have n0_ := Aside0.mk (blk_below (g := gb268) (o := .cells #[.int .i64 a0_0, .int .i64 a0_1] 68 (0, 0)) (by (with_reducible repeat (first | refine blk_drewN ?_ _ | refine blk_drew ?_ | refine blk_alloc ?_ _)); exact BK268.out) hb); have n1_ := Aside0.mk (below_step (by repeat (first | (with_reducible first | exact HB.out | apply below_alloc | apply pw_below_drewN | apply below_drew1 | refine below_set ?_ GE268.out) | exact HB.out)) hb); have n2_ := Aside0.mk (hbox); have n3_ := Aside0.mk ((by rw [hg]; exact (below_size (by repeat (first | (with_reducible first | exact HB.out | apply below_alloc | apply pw_below_drewN | apply below_drew1 | refine below_set ?_ GE268.out) | exact HB.out))) : w.heap.size ≤ gb269)); have n4_ := Aside0.mk ((by rw [hg]; exact (below_size (by repeat (first | (with_reducible first | exact HB.out | apply below_alloc | apply pw_below_drewN | apply below_drew1 | refine below_set ?_ GE268.out) | exact HB.out))) : w.heap.size ≤ gb269)); have n5_ := Aside0.mk ((by rw [hg]; exact Nat.ne_of_lt (blk_lt (g := gb268) (o := .cells #[.int .i64 a0_0, .int .i64 a0_1] 68 (0, 0)) (by (with_reducible repeat (first | refine blk_drewN ?_ _ | refine blk_drew ?_ | refine blk_alloc ?_ _)); exact BK268.out)) : gb268 ≠ gb269)); have n6_ := Aside0.mk ((by rw [hg]; exact Nat.ne_of_gt (blk_lt (g := gb268) (o := .cells #[.int .i64 a0_0, .int .i64 a0_1] 68 (0, 0)) (by (with_reducible repeat (first | refine blk_drewN ?_ _ | refine blk_drew ?_ | refine blk_alloc ?_ _)); exact BK268.out)) : gb269 ≠ gb268)); clear BK268; clear HB; have BK268 := n0_; have HB := n1_; have BK269 := n2_; have GW269 := n3_; have GE269 := n4_; have NB268_269 := n5_; have NB269_268 := n6_; clear n0_ n1_ n2_ n3_ n4_ n5_ n6_; clear hb hbox hg; have hnb12 := NB268_269.out; have hnc12 := NB269_268.out; have hcz13_0 : w11.cell? ⟨gb268, 0, none⟩ = some (.int .i64 a0_0) := (blk_cell BK268.out 0).trans rfl; have hcz13_1 : w11.cell? ⟨gb268, 1, none⟩ = some (.int .i64 a0_1) := (blk_cell BK268.out 1).trans rfl; have hfz13_0 := blk_frozen BK268.out 0; have hfz13_1 := blk_frozen BK268.out 1; have hcz14_0 : w11.cell? ⟨gb269, 0, none⟩ = some (.int .i64 a1_0) := (blk_cell BK269.out 0).trans rfl; have hcz14_1 : w11.cell? ⟨gb269, 1, none⟩ = some (.int .i64 a1_1) := (blk_cell BK269.out 1).trans rfl; have hfz14_0 := blk_frozen BK269.out 0; have hfz14_1 := blk_frozen BK269.out 1))
      go_ret
      exact ⟨by first | rfl | (simp [errW_none, errW_some] <;> rfl) | (simp [*, errW_none, errW_some] <;> rfl), by repeat (first | (with_reducible first | exact HB.out | apply below_alloc | apply pw_below_drewN | apply below_drew1 | refine below_set ?_ GE268.out | refine below_set ?_ GE269.out) | exact HB.out)⟩
  · rw [if_neg c3] at H
    have c3b0 : (a0_0 == a1_0) = false := beq_eq_false_iff_ne.mpr c3
    have c3b1 : (a0_0 != a1_0) = true := bne_iff_ne.mpr c3
    obtain rfl := Option.some.inj H
    go_enter Try.func54, Try.ntmps54
    go_wp2_with (first | ((with_reducible refine gate_dst (N := 2) rfl ?_); refine box_event ?hg (N := 2) ?hd (cs := #[.int .i64 a0_0, .int .i64 a0_1]) (t := 68) ?hr ?_; (case hd => rfl); (case hg => rfl); (case hr => first | (go_simp; done) | (go_simp; rfl)); intro gb268 hg w15 hbox hb; have n0_ := Aside0.mk (below_step (by repeat (first | (with_reducible first | exact HB.out | apply below_alloc | apply pw_below_drewN | apply below_drew1) | exact HB.out)) hb); have n1_ := Aside0.mk (hbox); have n2_ := Aside0.mk ((by rw [hg]; exact (below_size (by repeat (first | (with_reducible first | exact HB.out | apply below_alloc | apply pw_below_drewN | apply below_drew1) | exact HB.out))) : w.heap.size ≤ gb268)); have n3_ := Aside0.mk ((by rw [hg]; exact (below_size (by repeat (first | (with_reducible first | exact HB.out | apply below_alloc | apply pw_below_drewN | apply below_drew1) | exact HB.out))) : w.heap.size ≤ gb268)); clear HB; have HB := n0_; have BK268 := n1_; have GW268 := n2_; have GE268 := n3_; clear n0_ n1_ n2_ n3_; clear hb hbox hg) | ((with_reducible refine gate_dst (N := 3) rfl ?_); refine box_event ?hg (N := 3) ?hd (cs := #[.int .i64 a1_0, .int .i64 a1_1]) (t := 68) ?hr ?_; (case hd => rfl); (case hg => rfl); (case hr => first | (go_simp; done) | (go_simp; rfl)); intro gb269 hg w16 hbox hb; have n0_ := Aside0.mk (blk_below (g := gb268) (o := .cells #[.int .i64 a0_0, .int .i64 a0_1] 68 (0, 0)) (by (with_reducible repeat (first | refine blk_drewN ?_ _ | refine blk_drew ?_ | refine blk_alloc ?_ _)); exact BK268.out) hb); have n1_ := Aside0.mk (below_step (by repeat (first | (with_reducible first | exact HB.out | apply below_alloc | apply pw_below_drewN | apply below_drew1 | refine below_set ?_ GE268.out) | exact HB.out)) hb); have n2_ := Aside0.mk (hbox); have n3_ := Aside0.mk ((by rw [hg]; exact (below_size (by repeat (first | (with_reducible first | exact HB.out | apply below_alloc | apply pw_below_drewN | apply below_drew1 | refine below_set ?_ GE268.out) | exact HB.out))) : w.heap.size ≤ gb269)); have n4_ := Aside0.mk ((by rw [hg]; exact (below_size (by repeat (first | (with_reducible first | exact HB.out | apply below_alloc | apply pw_below_drewN | apply below_drew1 | refine below_set ?_ GE268.out) | exact HB.out))) : w.heap.size ≤ gb269)); have n5_ := Aside0.mk ((by rw [hg]; exact Nat.ne_of_lt (blk_lt (g := gb268) (o := .cells #[.int .i64 a0_0, .int .i64 a0_1] 68 (0, 0)) (by (with_reducible repeat (first | refine blk_drewN ?_ _ | refine blk_drew ?_ | refine blk_alloc ?_ _)); exact BK268.out)) : gb268 ≠ gb269)); have n6_ := Aside0.mk ((by rw [hg]; exact Nat.ne_of_gt (blk_lt (g := gb268) (o := .cells #[.int .i64 a0_0, .int .i64 a0_1] 68 (0, 0)) (by (with_reducible repeat (first | refine blk_drewN ?_ _ | refine blk_drew ?_ | refine blk_alloc ?_ _)); exact BK268.out)) : gb269 ≠ gb268)); clear BK268; clear HB; have BK268 := n0_; have HB := n1_; have BK269 := n2_; have GW269 := n3_; have GE269 := n4_; have NB268_269 := n5_; have NB269_268 := n6_; clear n0_ n1_ n2_ n3_ n4_ n5_ n6_; clear hb hbox hg; have hnb17 := NB268_269.out; have hnc17 := NB269_268.out; have hcz18_0 : w16.cell? ⟨gb268, 0, none⟩ = some (.int .i64 a0_0) := (blk_cell BK268.out 0).trans rfl; have hcz18_1 : w16.cell? ⟨gb268, 1, none⟩ = some (.int .i64 a0_1) := (blk_cell BK268.out 1).trans rfl; have hfz18_0 := blk_frozen BK268.out 0; have hfz18_1 := blk_frozen BK268.out 1; have hcz19_0 : w16.cell? ⟨gb269, 0, none⟩ = some (.int .i64 a1_0) := (blk_cell BK269.out 0).trans rfl; have hcz19_1 : w16.cell? ⟨gb269, 1, none⟩ = some (.int .i64 a1_1) := (blk_cell BK269.out 1).trans rfl; have hfz19_0 := blk_frozen BK269.out 0; have hfz19_1 := blk_frozen BK269.out 1))
    go_ret
    exact ⟨by first | rfl | (simp [errW_none, errW_some] <;> rfl) | (simp [*, errW_none, errW_some] <;> rfl), by repeat (first | (with_reducible first | exact HB.out | apply below_alloc | apply pw_below_drewN | apply below_drew1 | refine below_set ?_ GE268.out | refine below_set ?_ GE269.out) | exact HB.out)⟩

end Go.Proofs.Ytnlmalicpckfbaa.PFnExactFirstRounds
