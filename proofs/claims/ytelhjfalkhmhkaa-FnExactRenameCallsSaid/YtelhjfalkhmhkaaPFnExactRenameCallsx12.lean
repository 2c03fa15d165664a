-- Written by the session's mkprint.py over the kit's print.py (function texts marked OURS are the session's own).
import Derived.Test.YtelhjfalkhmhkaaPFnExactRenameCallsx0
import Derived.Test.YtelhjfalkhmhkaaHSorted
namespace Go.Proofs.Ytelhjfalkhmhkaa.PFnExactRenameCalls
open Go.RowKit Go.Proofs.YtelhjfalkhmhkaaW.PrintWords Go.Proofs.YtelhjfalkhmhkaaW.PrintLast Go.Proofs.YtelhjfalkhmhkaaW.PrintMore
attribute [local go_sem] max2_int min2_int max_two min_two max_three min_three max_four min_four   -- for this text's walks alone
set_option linter.unusedVariables false
set_option linter.unusedSimpArgs false

/-! ### impl_isPermutation: OURS: function 85 -/
def idxB (s : List Int) : Bool := (List.range s.length).all fun k => s.getD k 0 == (k : Int)
def impl_isPermutation.f (l0 : List Int) (a1 : Int) : Option Bool := if l0.length ≤ 1048576 then some (idxB (Go.Proofs.Ytelhjfalkhmhkaa.H.sortedI l0) && decide ((l0.length : Int) = a1)) else none
theorem idxB_no {s : List Int} {k : Nat} (hk : k < s.length) (h : s.getD k 0 ≠ (k : Int)) : idxB s = false := by
  cases hb : idxB s with
  | false => rfl
  | true =>
    have := (List.all_eq_true.1 hb) k (List.mem_range.2 hk)
    exact absurd (by simpa using this) h
theorem idxB_yes {s : List Int} (h : ∀ k, k < s.length → s.getD k 0 = (k : Int)) : idxB s = true :=
  List.all_eq_true.2 fun k hk => by rw [h k (List.mem_range.1 hk)]; simp
theorem w64_k (k : Nat) (h : k ≤ 1048577) : wrap64 ((k : Int) + 1) = ((k + 1 : Nat) : Int) := by unfold wrap64; omega
set_option maxHeartbeats 2000000 in
set_option maxRecDepth 100000 in
theorem impl_isPermutation.calls (A0 : Option Addr) (c0 : Nat) (l0 : List Int) (a1 : Int) (r : Bool) (w : World) (hr0 : Kd.C (Kd.int .i64) w A0 l0.length l0) (hc0 : l0.length ≤ c0) (h : impl_isPermutation.f l0 a1 = some r) :
    Calls Try.prog 85 #[.slice A0 l0.length c0, .int .i64 a1] w fun e w' => e = .returned (.bool r) ∧ Below w.heap.size w w' := by
  unfold impl_isPermutation.f at h
  by_cases hl : l0.length ≤ 1048576
  case neg => rw [if_neg hl] at h; cases h
  rw [if_pos hl] at h
  obtain rfl := Option.some.inj h
  clear h
  have hV := fun W2 => Go.Proofs.Ytelhjfalkhmhkaa.H.values_c A0 l0.length c0 W2
  have hS := Go.Proofs.Ytelhjfalkhmhkaa.H.sorted_c A0 c0 l0 hl w hr0
  have HS := Aside0.mk hS
  have HV := Aside0.mk hV
  obtain ⟨s, hs⟩ : ∃ s, s = Go.Proofs.Ytelhjfalkhmhkaa.H.sortedI l0 := ⟨_, rfl⟩
  have hsl : s.length = l0.length := by rw [hs]; exact Go.Proofs.Ytelhjfalkhmhkaa.H.sortedI_length l0
  have HL := Aside0.mk hl
  rw [← hs]
  rw [← hs] at HS
  have HSL := Aside0.mk hsl
  clear hr0 hc0 hS hV hs hsl hl
  go_enter Try.func85, Try.ntmps85
  go_wp2_with (first | (go_at_call 116; refine (HV.out _).mono ?_; rintro e w1 ⟨rfl, rfl⟩) | (go_at_call 115; refine HS.out.mono ?_; rintro e w2 ⟨v, rfl, ho, hb⟩; obtain ⟨A, c, rfl, hc, hC⟩ := Kd.R_reads ho; have HC := Aside0.mk hC; have HB := Aside0.mk hb; clear ho hb hC hc))
  go_loopg [11] s.length (fun gg v11 wr => ∃ k : Nat, k ≤ s.length ∧ s.length - k ≤ gg ∧ v11 = .int .i64 (k : Int) ∧ Aside0 (∀ j, j < k → s.getD j 0 = (j : Int)) ∧ wr = w2)
  case atStart => exact ⟨0, Nat.zero_le _, by omega, rfl, ⟨fun j hj => by omega⟩, rfl⟩
  case round =>
    obtain ⟨k, hk, hg, rfl, HI, rfl⟩ := hrel
    by_cases hlt : k < s.length
    · obtain ⟨ad, rfl, hx⟩ := Go.Proofs.Ytelhjfalkhmhkaa.H.at_num HC.out k hlt
      by_cases he : s.getD k 0 = (k : Int)
      · rw [he] at hx
        go_wp2
        go_roundg (gk - 1)
        case measure => omega
        case rel => exact ⟨k + 1, by omega, by omega, by first | rfl | rw [w64_k k (by have h1 := HL.out; have h2 := HSL.out; omega)], ⟨fun j hj => by
          by_cases hjk : j = k
          · rw [hjk]; exact he
          · exact HI.out j (by omega)⟩, rfl⟩
      · generalize hxx : s.getD k 0 = x at hx
        have hxk : ¬ x = (k : Int) := fun e => he (hxx.trans e)
        have HE := Aside0.mk he
        clear he
        go_wp2
        go_ret
        exact ⟨by rw [idxB_no hlt HE.out, Bool.false_and]; rfl, HB.out⟩
    · obtain rfl : k = s.length := by omega
      go_wp2
      go_ret
      exact ⟨by rw [idxB_yes HI.out, Bool.true_and]; first | rfl | simp, HB.out⟩

/-! ### impl_call: function 86 -/
def impl_call.f (a0 : Int) (a1 : Int) : Option (Int × Int) := some (mn a0 a1, mx a0 a1)
set_option maxHeartbeats 8000000 in
set_option maxRecDepth 100000 in
theorem impl_call.calls (a0 : Int) (a1 : Int) (r1 : Int) (r2 : Int) (w : World) (h : impl_call.f a0 a1 = some (r1, r2)) :
    Calls Try.prog 86 #[.int .i64 a0, .int .i64 a1] w fun e w' => e = .returned (.agg #[.int .i64 r1, .int .i64 r2]) ∧ Below w.heap.size w w' := by
  have hu64 := Try.underlying64
  have HB := Aside0.mk (Below.refl w.heap.size w)
  have H : (some (mn a0 a1, mx a0 a1)) = some (r1, r2) := h
  clear h
  obtain ⟨ji3, hji3⟩ : ∃ j_ : Int, (mn a0 a1) = j_ := ⟨_, rfl⟩
  replace H : (some (ji3, mx a0 a1)) = some (r1, r2) := by first | (rw [hji3] at H; exact H) | (simp only [hji3] at H ⊢; exact H)
  have hji3_ : (if a1 < a0 then a1 else a0) = ji3 := hji3
  obtain ⟨ji4, hji4⟩ : ∃ j_ : Int, (mx a0 a1) = j_ := ⟨_, rfl⟩
  replace H : (some (ji3, ji4)) = some (r1, r2) := by first | (rw [hji4] at H; exact H) | (simp only [hji4] at H ⊢; exact H)
  have hji4_ : (if a0 < a1 then a1 else a0) = ji4 := hji4
  simp only [Option.some.injEq, Prod.mk.injEq] at H
  obtain ⟨rfl, rfl⟩ := H
  go_enter Try.func86, Try.ntmps86
  go_wp2_with (first | ((with_reducible refine gate_dst (N := 4) rfl ?_); refine box_event ?hg (N := 4) ?hd (cs := #[.int .i64 0, .int .i64 0]) (t := 64) ?hr ?_; (case hd => rfl); (case hg => rfl); (case hr => first | (go_simp; done) | (go_simp; rfl)); intro gb162 hg w5 hbox hb; have n0_ := Aside0.mk (below_step (by repeat (first | (with_reducible first | exact HB.out | apply below_alloc | apply pw_below_drewN | apply below_drew1) | exact HB.out)) hb); have n1_ := Aside0.mk (hbox); have n2_ := Aside0.mk ((by rw [hg]; exact (below_size (by repeat (first | (with_reducible first | exact HB.out | apply below_alloc | apply pw_below_drewN | apply below_drew1) | exact HB.out))) : w.heap.size ≤ gb162)); have n3_ := Aside0.mk ((by rw [hg]; exact (below_size (by repeat (first | (with_reducible first | exact HB.out | apply below_alloc | apply pw_below_drewN | apply below_drew1) | exact HB.out))) : w.heap.size ≤ gb162)); clear HB; have HB := n0_; have BK162 := n1_; have GW162 := n2_; have GE162 := n3_; clear n0_ n1_ n2_ n3_; clear hb hbox hg; have hcz6_0 : w5.cell? ⟨gb162, 0, none⟩ = some (.int .i64 0) := (blk_cell BK162.out 0).trans rfl; have hcz6_1 : w5.cell? ⟨gb162, 1, none⟩ = some (.int .i64 0) := (blk_cell BK162.out 1).trans rfl; have hfz6_0 := blk_frozen BK162.out 0; have hfz6_1 := blk_frozen BK162.out 1))
  refine bodyPost_ret (results_cell_row rfl _ _ gb162 64 #[.int .i64 ji3, .int .i64 ji4] (0, 0) _ rfl (by (with_reducible repeat (first | refine blk_drewN ?_ _ | refine blk_drew ?_ | refine blk_alloc ?_ _)); refine blk_put (cs := #[.int .i64 ji3, .int .i64 0]) ?_ 1 _ rfl; (with_reducible repeat (first | refine blk_drewN ?_ _ | refine blk_drew ?_ | refine blk_alloc ?_ _)); refine blk_put (cs := #[.int .i64 0, .int .i64 0]) ?_ 0 _ rfl; (with_reducible repeat (first | refine blk_drewN ?_ _ | refine blk_drew ?_ | refine blk_alloc ?_ _)); exact BK162.out) Try.underlying64 rfl (by kernel_rfl)) rfl ?_
  exact ⟨by first | rfl | (simp [errW_none, errW_some] <;> rfl) | (simp only [← hji3, ← hji4]; first | rfl | (simp [errW_none, errW_some] <;> rfl)) | (simp [*, errW_none, errW_some] <;> rfl), by repeat (first | (with_reducible first | exact HB.out | apply below_alloc | apply pw_below_drewN | apply below_drew1 | refine below_set ?_ GE162.out) | exact HB.out)⟩

end Go.Proofs.Ytelhjfalkhmhkaa.PFnExactRenameCalls
