-- Written by the session's mkprint.py over the kit's print.py (function texts marked OURS are the session's own).
import Derived.Test.YtnlmalicpckfbaaPFnExactFirstRoundsx0
import Derived.Test.YtnlmalicpckfbaaPFnExactFirstRoundsx11
import Derived.Test.YtnlmalicpckfbaaHCloneS
namespace Go.Proofs.Ytnlmalicpckfbaa.PFnExactFirstRounds
open Go.RowKit Go.Proofs.YtnlmalicpckfbaaW.PrintWords Go.Proofs.YtnlmalicpckfbaaW.PrintLast Go.Proofs.YtnlmalicpckfbaaW.PrintMore
attribute [local go_sem] max2_int min2_int max_two min_two max_three min_three max_four min_four   -- for this text's walks alone
set_option linter.unusedVariables false
set_option linter.unusedSimpArgs false

/-! ### impl_canGrow: function 61 -/
def impl_canGrow.l0 : Nat → Int → Int → Int → List Int → Int → Int → Option (Bool)
  | 0, _, _, _, _, _, _ => none
  | k + 1, x1, x2, x7, x10, x11, x12 => if x12 < x11 then (if 0 ≤ x12 then (if x12 < (x10.length : Int) then ((bits_OnesCount16.f (rd x10 x12)).bind fun t239 => (impl_canGrow.l0 k x1 x2 (mx x7 t239) x10 x11 (wrap64 (x12 + 1)))) else (none)) else (none)) else (if 0 ≤ x1 then (some (decide ((shl .i64 x7 x1) ≥ x2))) else (none))
def impl_canGrow.f (k : Nat) (l0 : List Int) (a1 : Int) (a2 : Int) : Option (Bool) := impl_canGrow.l0 k a1 a2 0 l0 (l0.length : Int) 0
theorem impl_canGrow.mono_l : ∀ k, (∀ y0 y1 y2 y3 y4 y5, LeO (impl_canGrow.l0 k y0 y1 y2 y3 y4 y5) (impl_canGrow.l0 (k + 1) y0 y1 y2 y3 y4 y5))
  | 0 => fun _ _ _ _ _ _ r h => by simp [impl_canGrow.l0] at h
  | k + 1 => by
    have ih0 := impl_canGrow.mono_l k
    · intro y0 y1 y2 y3 y4 y5
      unfold impl_canGrow.l0
      repeat' first
      | (with_reducible exact ih0 _ _ _ _ _ _)
      | (with_reducible exact LeO.refl _)
      | (with_reducible exact LeO.none _)
      | (with_reducible refine LeO.ite ?_ ?_)
      | (with_reducible refine LeO.bind ?_ (fun _ => ?_))
      | exact ih0 _ _ _ _ _ _
      | exact LeO.none _
      | refine LeO.ite ?_ ?_
      | refine LeO.bind ?_ (fun _ => ?_)
theorem impl_canGrow.mono : ∀ a0 a1 a2 k, LeO (impl_canGrow.f k a0 a1 a2) (impl_canGrow.f (k + 1) a0 a1 a2) := by
  intro a0 a1 a2 k
  have ih0 := impl_canGrow.mono_l k
  unfold impl_canGrow.f
  repeat' first
      | (with_reducible exact ih0 _ _ _ _ _ _)
      | (with_reducible exact LeO.refl _)
      | (with_reducible exact LeO.none _)
      | (with_reducible refine LeO.ite ?_ ?_)
      | (with_reducible refine LeO.bind ?_ (fun _ => ?_))
      | exact ih0 _ _ _ _ _ _
      | exact LeO.none _
      | refine LeO.ite ?_ ?_
      | refine LeO.bind ?_ (fun _ => ?_)
set_option maxHeartbeats 8000000 in
set_option maxRecDepth 100000 in
theorem impl_canGrow.calls (k : Nat) (A0 : Option Addr) (c0 : Nat) (l0 : List Int) (a1 : Int) (a2 : Int) (r : Bool) (w : World) (hr0 : Kd.C (Kd.int .u16) w A0 l0.length l0) (hc0 : l0.length ≤ c0) (h : impl_canGrow.f k l0 a1 a2 = some r) :
    Calls Try.prog 61 #[.slice A0 l0.length c0, .int .i64 a1, .int .i64 a2] w fun e w' => e = .returned (.bool r) ∧ Below w.heap.size w w' := by
  have HR0 := Aside0.mk hr0
  have HC0 := Aside0.mk hc0
  clear hr0 hc0
  have HB := Aside0.mk (Below.refl w.heap.size w)
  have H : (impl_canGrow.l0 k a1 a2 0 l0 (l0.length : Int) 0) = some r := h
  clear h
  have H' := Aside0.mk H
  clear H
  go_enter Try.func61, Try.ntmps61
  go_wp2
  go_loopg [7, 12] k (fun kq v7 v12 w' => ∃ (x7_1 : Int) (x12_1 : Int), v7 = .int .i64 x7_1 ∧ v12 = .int .i64 x12_1 ∧ Aside0 (impl_canGrow.l0 kq a1 a2 x7_1 l0 (l0.length : Int) x12_1 = some r) ∧ Aside0 (kq ≤ k) ∧ Aside0 (Below w.heap.size w w'))
  case atStart => exact ⟨(0), (0), (by first | rfl | (simp; done) | (simp [*]; done)), (by first | rfl | (simp; done) | (simp [*]; done)), H', ⟨Nat.le_refl _⟩, ⟨by repeat (first | (with_reducible first | exact HB.out | apply below_alloc | apply pw_below_drewN | apply below_drew1) | exact HB.out)⟩⟩
  case round =>
    clear H'
    try clear p2
    obtain ⟨x7_1, x12_1, rfl, rfl, HA, HK1, HB⟩ := hrel
    cases gk with
    | zero => exact absurd HA.out (by simp [impl_canGrow.l0])
    | succ k1 =>
      have H := HA.out
      clear HA
      simp only [impl_canGrow.l0] at H
      by_cases c4 : x12_1 < (l0.length : Int)
      · rw [if_pos c4] at H
        have c4b0 : decide (x12_1 < (l0.length : Int)) = true := decide_eq_true c4
        clear c4
        by_cases c5 : 0 ≤ x12_1
        · rw [if_pos c5] at H
          have c5b0 : decide (0 ≤ x12_1) = true := decide_eq_true c5
          clear c5
          by_cases c6 : x12_1 < (l0.length : Int)
          · rw [if_pos c6] at H
            have c6b0 : decide (x12_1 < (l0.length : Int)) = true := decide_eq_true c6
            clear c6
            replace H := Option.bind_eq_some_iff.mp H
            obtain ⟨t239, A70, H⟩ := H
            replace H : (impl_canGrow.l0 k1 a1 a2 (mx x7_1 t239) l0 (l0.length : Int) (wrap64 (x12_1 + 1))) = some r := H
            have A7 := Aside0.mk A70
            clear A70
            obtain ⟨ji8, hji8⟩ : ∃ j_ : Int, (mx x7_1 t239) = j_ := ⟨_, rfl⟩
            replace H : (impl_canGrow.l0 k1 a1 a2 ji8 l0 (l0.length : Int) (wrap64 (x12_1 + 1))) = some r := by first | (rw [hji8] at H; exact H) | (simp only [hji8] at H ⊢; exact H)
            (try rw [hji8] at A7)
            have hji8_ : (if x7_1 < t239 then t239 else x7_1) = ji8 := hji8
            have H' := Aside0.mk H
            clear H
            have p238 : 0 ≤ (x12_1 : Int) := of_decide_eq_true (by first | (with_reducible assumption) | assumption)
            have q238 : x12_1 < (l0.length : Int) := of_decide_eq_true (by first | (with_reducible assumption) | assumption)
            obtain ⟨ad238, e238, hx238_0⟩ := Kd.at_int HR0.out x12_1 p238 q238
            cases e238
            replace hx238_0 := (HB.out.cell (World.block_lt_of_cell? w _ hx238_0)).trans hx238_0
            replace p238 := eq_true p238
            replace q238 := eq_true q238
            go_wp2_with (first | ((with_reducible refine gate_callee (f := 86) rfl ?_); refine goesL_ (some 18) rfl rfl Try.func86 (by kernel_rfl) rfl #[.int .u16 (rd l0 x12_1)] rfl (by (try simp only [List.map_toArray, List.map_cons, List.map_nil]); first | done | rfl | (simp only [List.length_drop, List.length_take]; rfl)) ?_; (with_reducible refine (bits_OnesCount16.calls (rd l0 x12_1) t239 _ A7.out).mono ?_); rintro e w' ⟨rfl, ⟨nd, rfl⟩⟩; refine ⟨_, rfl, ?_⟩))
            go_roundg k1
            case measure => have := HK1.out; omega
            case rel => exact ⟨(ji8), (wrap64 (x12_1 + 1)), (by first | rfl | (simp; done) | (simp only [← hji8] <;> (first | rfl | simp)) | (simp [*]; done)), (by first | rfl | (simp; done) | (simp [*]; done)), H', ⟨by have := HK1.out; omega⟩, ⟨by repeat (first | (with_reducible first | exact HB.out | apply below_alloc | apply pw_below_drewN | apply below_drew1) | exact HB.out)⟩⟩
          · rw [if_neg c6] at H
            exact absurd H (by simp)
        · rw [if_neg c5] at H
          exact absurd H (by simp)
      · rw [if_neg c4] at H
        have c4b0 : decide (x12_1 < (l0.length : Int)) = false := decide_eq_false c4
        clear c4
        by_cases c9 : 0 ≤ a1
        · rw [if_pos c9] at H
          have c9b0 := eq_true c9
          have c9b1 : decide (0 ≤ a1) = true := decide_eq_true c9
          clear c9
          obtain ⟨ji10, hji10⟩ : ∃ j_ : Int, (shl .i64 x7_1 a1) = j_ := ⟨_, rfl⟩
          replace H : (some (decide ((ji10) ≥ a2))) = some r := by first | (rw [hji10] at H; exact H) | (simp only [hji10] at H ⊢; exact H)
          have hji10_ : (IntKind.i64.wrap (x7_1 * 2 ^ min a1.toNat 64)) = ji10 := hji10
          have hji10z : a1 ≤ 64 → (IntKind.i64.wrap (x7_1 * 2 ^ a1.toNat)) = ji10 := shl_small hji10
          have hji10y : (wrap64 (x7_1 * 2 ^ min a1.toNat 64)) = ji10 := (i64_w _).symm.trans hji10_
          have hji10x : a1 ≤ 64 → (wrap64 (x7_1 * 2 ^ a1.toNat)) = ji10 := fun h_ => (i64_w _).symm.trans (hji10z h_)
          obtain rfl := Option.some.inj H
          go_wp2
          go_ret
          exact ⟨by first | rfl | (simp [errW_none, errW_some] <;> rfl) | (simp only [← hji10]; first | rfl | (simp [errW_none, errW_some] <;> rfl)) | (simp [*, errW_none, errW_some] <;> rfl), by repeat (first | (with_reducible first | exact HB.out | apply below_alloc | apply pw_below_drewN | apply below_drew1) | exact HB.out)⟩
        · rw [if_neg c9] at H
          exact absurd H (by simp)

/-! ### impl_Call_62: OURS: function 62 -/
def impl_Call_62.f (l0 : List (List S68)) : Option (List (List S68)) := if l0.length ≤ 1048576 then some l0 else none
theorem reps_same {rows : List (List Value)} {a b : List Value} {w0 w1 : World} {b0 b1 : Nat} {o0 o1 : Nat → Prop} (ha : Reps ((Kd.raw 1).M w0 b0 o0) 1 rows a) (hb : Reps ((Kd.raw 1).M w1 b1 o1) 1 rows b) : a = b := by
  have hl : a.length = b.length := by rw [ha.1, hb.1]
  apply List.ext_getElem hl
  intro j h1 h2
  have hj : j < rows.length := by have := ha.1; omega
  have q1 := (ha.2 j _ (List.getElem?_eq_getElem hj)).1
  have q2 := (hb.2 j _ (List.getElem?_eq_getElem hj)).1
  have q3 := q1.trans q2.symm
  rw [Nat.mul_one, List.drop_eq_getElem_cons h1, List.drop_eq_getElem_cons h2, List.take_succ_cons, List.take_succ_cons] at q3
  exact (List.cons.inj q3).1
set_option maxHeartbeats 2000000 in
set_option maxRecDepth 100000 in
theorem impl_Call_62.callsS (B_ : Nat) (ok : Nat → Prop) (A0 : Option Addr) (c0 : Nat) (l0 r : List (List S68)) (w : World) (hB_ : B_ ≤ w.heap.size) (hS : Kd.S (Kd.slice 68 k68) 25 w B_ ok (.slice A0 l0.length c0) l0) (h : impl_Call_62.f l0 = some r) :
    Calls Try.prog 62 #[.slice A0 l0.length c0] w fun e w' => ∃ v0_ : Value, e = .returned v0_ ∧ Kd.S (Kd.slice 68 k68) 25 w' B_ (fun k => ok k ∨ w.heap.size ≤ k) v0_ r ∧ (∀ k, v0_.ownBlock = some k → w.heap.size ≤ k) ∧ Below w.heap.size w w' := by
  unfold impl_Call_62.f at h
  by_cases hl : l0.length ≤ 1048576
  case neg => rw [if_neg hl] at h; cases h
  rw [if_pos hl] at h
  obtain rfl := Option.some.inj h
  clear h
  obtain ⟨f, h0, inner, ho, hr⟩ := hS
  have hol := ho
  obtain ⟨ho1, ho2⟩ := ho
  rcases ho2 with ⟨hv, hz⟩ | ⟨g, cap, cur, hv, hb, hh, hnc', hcm, hcs, ht⟩
  · rw [List.length_zipIdx] at hz
    obtain rfl : l0 = [] := List.eq_nil_of_length_eq_zero hz
    injection hv with ha hn hc
    subst ha
    have he_ : ∀ w : World, (binOp .eql 35 (.slice none 0 c0) (.slice none 0 0)).run Try.prog w = .ok (.bool true) w := fun _ => rfl
    clear hc h0 hol ho1 hr hz hn
    go_enter Try.func62, Try.ntmps62
    go_wp2
    go_ret
    exact ⟨_, rfl, Kd.S_nil _ _ _ _ _, fun k hk => by simp [Value.ownBlock] at hk, Below.refl _ _⟩
  · injection hv with ha hn hc
    subst ha
    obtain ⟨rows, hrows⟩ : ∃ rows, rows = Kd.chunks 1 l0.zipIdx.length inner := ⟨_, rfl⟩
    have hraw : (Kd.raw 1).R 25 w B_ (fun _ => True) (.slice (some ⟨g, 0, none⟩) l0.length c0) rows := by
      refine ⟨fun _ _ => trivial, inner, ?_, ?_⟩
      · rw [hrows, Kd.chunks_length]; exact hol
      · rw [hrows]; exact Kd.reps_raw hr (fun x c hp => ⟨Kd.K_len _ (Kd.K_of_M _ hp), Kd.K_one _ (Kd.K_of_M _ hp)⟩)
    have hrl : rows.length = l0.length := by rw [hrows, Kd.chunks_length, List.length_zipIdx]
    have he_ : ∀ w : World, (binOp .eql 35 (.slice (some ⟨g, 0, none⟩) l0.length c0) (.slice none 0 0)).run Try.prog w = .ok (.bool false) w := fun _ => rfl
    have hC := (Kd.R_reads' hraw).2.2
    rw [hrl] at hC
    have HR0 := Aside0.mk hC
    have HB := Aside0.mk (Below.refl w.heap.size w)
    have HRW := Aside0.mk hraw
    have HH0 := Aside0.mk h0
    have HRR := Aside0.mk hr
    have HHH := Aside0.mk hh
    have HOL := Aside0.mk hol
    have HRL := Aside0.mk hrl
    have HROWS := Aside0.mk hrows
    have HHC := Aside0.mk hc
    have HL := Aside0.mk hl
    clear hC hraw h0 hr hh hol hrl ho1 ht hcs hcm hnc' hn hrows hc hl
    have LM : Aside0 ((([] : List (List Value)).length + l0.length) * 24 ≤ 140737488355328) := ⟨by have := HL.out; simp; omega⟩
    go_enter Try.func62, Try.ntmps62
    go_wp2_with (first | ((with_reducible refine gate_dst (N := 5) rfl ?_); refine Kd.R_lit (Kd.raw 1) _ 25 ?hg (N := 5) ?hd (xs := ([] : List (List Value))) (inner := []) (ok := fun _ => True) (okp := fun _ => True) ?hr ?hp (fun _ hk => hk) trivial (Below.refl _ _) (Nat.le_refl _) (by simp) ?_; (case hd => rfl); (case hg => rfl); (case hr => first | (go_simp; done) | (go_simp; rfl)); (case hp => exact (Reps.none _ _)); intro v216 w3 ho4 hb hg_ hnew_; clear hg_ hnew_; have HO217 := Aside0.mk (Kd.R_lower ho4 (below_size HB.out)); have n1_ := Aside0.mk (below_step HB.out hb); clear HB; have HB := n1_; clear n1_ hb ho4) | ((with_reducible refine gate_builtin (b := .append) (xs := #[.tmp 5, .tmp 6]) rfl ?_); at_builtin; refine Kd.R_append_rows (Kd.raw 1) (w0 := w) w.heap.size rfl (.tmp 5) (.tmp 6) 35 25 (.slice none 0 0) 24 rfl Try.underlying35 (by kernel_rfl) rfl (by decide) (by omega) v216 ([] : List (List Value)) rows _ _ _ (fun _ => True) (fun _ => False) rfl rfl ?aO ?aR (fun _ _ h => h) (fun _ h => h.elim) ?aF ?aB ?aS ?aL ?_; (case aR => exact Kd.C_below HR0.out HB.out); (case aB => exact HB.out); (case aF => exact (fun _ _ => trivial)); (case aO => exact HO217.out); (case aS => exact below_size HB.out); (case aL => exact LM.out); intro v219 w5 ho hb hg hat; have HO220 := Aside0.mk ho; clear HB HO217; have HB := Aside0.mk hb; clear ho hb hg hat))
    go_ret
    obtain ⟨hn0, inner', ho', hr'⟩ := HO220.out
    have e1 : Reps ((Kd.raw 1).M w B_ (fun _ => True)) 1 rows inner := by rw [HROWS.out]; exact Kd.reps_raw HRR.out (fun x c hp => ⟨Kd.K_len _ (Kd.K_of_M _ hp), Kd.K_one _ (Kd.K_of_M _ hp)⟩)
    have e2 : inner' = inner := reps_same (by rw [← List.nil_append rows]; exact hr') e1
    subst e2
    have hfr : ∀ k, (v219 : Value).ownBlock = some k → w.heap.size ≤ k := Kd.R_base HO220.out
    have hbd := fun x c (hp : (Kd.tag f (Kd.slice 68 k68)).M w B_ (fun k => ok k ∧ some k ≠ (Value.slice (some ⟨g, 0, none⟩) l0.length c0).ownBlock) x c) => (Kd.tag f (Kd.slice 68 k68)).M_bound hp
    refine ⟨_, rfl, ⟨f, fun k hk => .inr (hfr k hk), inner', ?_, ?_⟩, hfr, HB.out⟩
    · rw [List.nil_append, HRL.out] at ho'
      rw [List.length_zipIdx]
      obtain ⟨q1, q2⟩ := ho'
      refine ⟨q1, ?_⟩
      rcases q2 with q2 | ⟨g2, cap2, cur2, z1, z2, z3⟩
      · exact .inl q2
      · exact .inr ⟨g2, cap2, cur2, z1, Nat.le_trans hB_ z2, z3⟩
    · refine HRR.out.imp_ (fun x c hp => ?_)
      have hm := (Kd.tag f (Kd.slice 68 k68)).M_move (w1 := w5) (fun k hk => HB.out.block k hk.2.2.1) (hbd x c hp)
      refine (Kd.tag f (Kd.slice 68 k68)).M_mono (fun k hk => ⟨.inl hk.1.1, fun he => ?_⟩) hm
      have := hfr k he.symm
      have := hk.2.2.1
      omega


end Go.Proofs.Ytnlmalicpckfbaa.PFnExactFirstRounds
