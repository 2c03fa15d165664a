/- The contract of slices.DeleteFunc on a row of one's own of calls, for whatever predicate, at the row's elements, leaves what lay in memory unturned: the row of the elements of which it does not hold. No condition beside the row's and the predicate's. -/
import Derived.Test.YtgcpbaipdpchfaaHDelete
namespace Go.Proofs.Ytgcpbaipdpchfaa.H
open Go.RowKit Go.Proofs.YtgcpbaipdpchfaaW.PrintWords Go.Proofs.YtgcpbaipdpchfaaW.PrintLast Go.Proofs.YtgcpbaipdpchfaaW.PrintMore

/-- 'clear(s)' on a slice of elements of whatever size. -/
theorem run_clear_many {P : Program} (w : World) (t e : TypeId) (z : Value) (ht : P.underlying t = some (.slice e)) (hv : ∀ w, (zeroValue e).run P w = .ok z w) (h1 : ∀ v ∈ z.cells.toList, v.oneCell' = true) (b o m c : Nat) (hm : 0 < m)
    (hc : ∀ j, j < m * z.cells.size → (w.cell? ⟨b, o + j, none⟩).isSome = true) (hf : ∀ j, j < m * z.cells.size → w.frozen? ⟨b, o + j, none⟩ = false) :
    ∃ zs : List Value, zs.length = m * z.cells.size ∧ ∀ ty, (Builtin.clear_ #[t] ty #[.slice (some ⟨b, o, none⟩) m c]).run P w = .ok (.tuple #[]) (w.setCells b o zs) := by
  obtain ⟨m, rfl⟩ : ∃ q, m = q + 1 := ⟨m - 1, by omega⟩
  have hlen : (Builtin.zeroCells z.cells (m + 1)).toList.length = (m + 1) * z.cells.size := by simp [Builtin.zeroCells]
  have hone : ∀ v ∈ (Builtin.zeroCells z.cells (m + 1)).toList, v.oneCell' = true := by
    intro v hv
    simp only [Builtin.zeroCells, Array.toList_map, Array.toList_range, List.mem_map, List.mem_range] at hv
    obtain ⟨i, hi, rfl⟩ := hv
    have hpos : 0 < z.cells.size := by
      rcases Nat.eq_zero_or_pos z.cells.size with h | h
      · rw [h] at hi; simp at hi
      · exact h
    have hlt : i % z.cells.size < z.cells.size := Nat.mod_lt _ hpos
    refine h1 _ ?_
    rw [getElem!_pos z.cells _ hlt]
    simp
  have hst := run_storeCells_cells (P := P) b o (Builtin.zeroCells z.cells (m + 1)).toList 0 w (by rw [hlen]; simpa using hc) (by rw [hlen]; simpa using hf) hone
  simp only [Nat.add_zero] at hst
  exact ⟨_, hlen, fun ty => by simp [Builtin.clear_, run_underlying ht, hv, hst]⟩

section
variable {α : Type} [Inhabited α] {d : Kd α} {fa fb : α → Int}
/-- What is asked of the predicate: in each world that keeps what lay below the base. -/
theorem mem_getD {l : List α} {i : Nat} (h : i < l.length) : l.getD i default ∈ l := by
  rw [List.getD_eq_getElem?_getD, List.getElem?_eq_getElem h]
  exact List.getElem_mem h
/-- .. at each element of the row. -/
def PredAbove (g : Nat) (lb : Array Value) (fa fb : α → Int) (p : α → Bool) (l : List α) (base : Nat) (w0 : World) : Prop :=
  ∀ (W : World) (x : α), x ∈ l → Below base w0 W → Calls Try.prog g (#[.agg #[.int .i64 (fa x), .int .i64 (fb x)]] ++ lb) W fun e w' => e = .returned (.bool (p x)) ∧ Below W.heap.size W w'
def FirstPost (p : α → Bool) (l : List α) (W : World) (e : Ending) (w' : World) : Prop := ∃ n : Int, e = .returned (.int .i64 n) ∧ Below W.heap.size W w' ∧ ((n = -1 ∧ ∀ j : Nat, j < l.length → p (l.getD j default) = false) ∨ (∃ i : Nat, n = (i : Int) ∧ i < l.length ∧ p (l.getD i default) = true ∧ ∀ j : Nat, j < i → p (l.getD j default) = false))
set_option maxHeartbeats 2000000 in
set_option maxRecDepth 100000 in
theorem firstFunc (hs : d.sz = 2) (ho : ∀ w x cs, d.K w x cs → cs = [.int .i64 (fa x), .int .i64 (fb x)]) (p : α → Bool) (g : Nat) (lb : Array Value) (eg : ∀ args w, (callFunc g args).run Try.prog w = .ok (.enter g args) w)
    (A : Option Addr) (c : Nat) (l : List α) (base : Nat) (w0 w : World) (hB : Below base w0 w) (hbs : base ≤ w.heap.size) (hc : Kd.C d w A l.length l) (hp : PredAbove g lb fa fb p l base w0) :
    Calls Try.prog 107 #[.slice A l.length c, .func (.func g) #[] lb] w (FirstPost p l w) := by
  have hu := Try.underlying54
  have HC := Aside0.mk hc
  have HB0 := Aside0.mk hB
  have HBS := Aside0.mk hbs
  have hmax : (l.length : Int) ≤ 9223372036854775807 := by have := Kd.C_max hc; omega
  clear hc hB hbs
  go_enter Try.func107, Try.ntmps107
  go_wp2
  go_loopg [5, 8] l.length (fun gg _ s8 wr => ∃ kk : Nat, kk ≤ l.length ∧ l.length - kk ≤ gg ∧ s8 = .int .i64 (kk : Int) ∧ Aside0 (Below w.heap.size w wr) ∧ Aside0 (∀ j : Nat, j < kk → p (l.getD j default) = false))
  case atStart => exact ⟨0, by omega, by omega, rfl, ⟨Below.refl _ w⟩, ⟨fun j hj => by omega⟩⟩
  case round =>
    obtain ⟨kk, hkk, hg, rfl, BW, HA⟩ := hrel
    by_cases hlt : (kk : Int) < (l.length : Int)
    · obtain ⟨ad, rfl, c0, c1⟩ := at_pair hs ho HC.out (kk : Int) (by omega) hlt
      replace c0 := cell_b BW.out c0
      replace c1 := cell_b BW.out c1
      have hcall := hp wr (l.getD kk default) (mem_getD (by omega)) (HB0.out.trans (BW.out.mono HBS.out))
      rw [show ((kk : Int)).toNat = kk by omega] at c0 c1
      have HD := Aside0.mk (rfl : l.getD kk default = l.getD kk default)
      have hex : ∃ x, x = l.getD kk default := ⟨_, rfl⟩
      obtain ⟨x, hx⟩ := hex
      rw [← hx] at c0 c1 hcall
      have HX := Aside0.mk hx
      clear hx HD
      have hk0 : (0 : Int) ≤ (kk : Int) := by omega
      cases hq : p x with
      | true =>
        rw [hq] at hcall
        have HQ := Aside0.mk hq
        clear hq
        go_wp2_with (go_at_fn g; refine hcall.mono ?_; rintro e w' ⟨rfl, hb'⟩; have HBB := Aside0.mk hb'; clear hb')
        go_ret
        exact ⟨kk, rfl, below_step BW.out HBB.out, .inr ⟨kk, rfl, by omega, by rw [← HX.out]; exact HQ.out, HA.out⟩⟩
      | false =>
        rw [hq] at hcall
        have HQ := Aside0.mk hq
        clear hq
        go_wp2_with (go_at_fn g; refine hcall.mono ?_; rintro e w' ⟨rfl, hb'⟩; have HBB := Aside0.mk hb'; clear hb')
        go_roundg (gk - 1)
        case measure => omega
        case rel =>
          refine ⟨kk + 1, by omega, by omega, by go_num, ⟨below_step BW.out HBB.out⟩, ⟨fun j hj => ?_⟩⟩
          by_cases e : j = kk
          · subst e; rw [← HX.out]; exact HQ.out
          · exact HA.out j (by omega)
    · have : kk = l.length := by omega
      subst this
      go_wp2
      go_ret
      exact ⟨-1, rfl, BW.out, .inl ⟨rfl, HA.out⟩⟩

theorem getD_take {l : List α} {n i : Nat} (h : i < n) : (l.take n).getD i default = l.getD i default := by
  simp [List.getD_eq_getElem?_getD, h]
theorem filter_none {p : α → Bool} {l : List α} (h : ∀ j : Nat, j < l.length → p (l.getD j default) = false) : l.filter (fun x => !p x) = l := by
  rw [List.filter_eq_self]
  intro x hx
  obtain ⟨j, hj, rfl⟩ := List.getElem_of_mem hx
  have := h j hj
  rw [List.getD_eq_getElem?_getD, List.getElem?_eq_getElem hj] at this
  have e : p l[j] = false := this
  rw [e]; rfl
theorem take_next (l : List α) (j : Nat) (h : j < l.length) : l.take (j + 1) = l.take j ++ [l.getD j default] := by
  rw [List.take_succ_eq_append_getElem h, List.getD_eq_getElem?_getD, List.getElem?_eq_getElem h]; rfl
theorem start_filter {p : α → Bool} {l : List α} {i : Nat} (h : ∀ j : Nat, j < i → p (l.getD j default) = false) (hp : p (l.getD i default) = true) (hi : i < l.length) : l.take i = (l.take (i + 1)).filter (fun x => !p x) := by
  have h1 : (l.take i).filter (fun x => !p x) = l.take i := filter_none (fun j hj => by
    rw [List.length_take] at hj
    rw [getD_take (by omega)]
    exact h j (by omega))
  rw [take_next l i hi, List.filter_append, h1, List.filter_cons, hp]
  simp
theorem next_true {p : α → Bool} {l ys : List α} {i j : Nat} (h : ys.take i = (l.take j).filter (fun x => !p x)) (hj : j < l.length) (hp : p (l.getD j default) = true) : ys.take i = (l.take (j + 1)).filter (fun x => !p x) := by
  rw [h, take_next l j hj, List.filter_append, List.filter_cons, hp]
  simp
theorem next_false {p : α → Bool} {l ys : List α} {i j : Nat} (h : ys.take i = (l.take j).filter (fun x => !p x)) (hj : j < l.length) (hi : i < ys.length) (hp : p (l.getD j default) = false) : (ys.set i (l.getD j default)).take (i + 1) = (l.take (j + 1)).filter (fun x => !p x) := by
  rw [take_next l j hj, List.filter_append, List.filter_cons, hp, ← h, take_next _ i (by simpa using hi)]
  have e1 : (ys.set i (l.getD j default)).take i = ys.take i := by
    rw [List.take_set, List.set_eq_of_length_le (by rw [List.length_take]; omega)]
  have e2 : (ys.set i (l.getD j default)).getD i default = l.getD j default := by
    simp [List.getD_eq_getElem?_getD, hi]
  rw [e1, e2]
  simp
theorem drop_next {β : Type} {l ys : List β} {j : Nat} (h : ys.drop j = l.drop j) : ys.drop (j + 1) = l.drop (j + 1) := by
  rw [← List.drop_drop, h, List.drop_drop]
theorem drop_set {β : Type} {l ys : List β} {i j : Nat} {x : β} (h : ys.drop j = l.drop j) (hij : i < j) : (ys.set i x).drop (j + 1) = l.drop (j + 1) := by
  rw [List.drop_set_of_lt (by omega)]
  exact drop_next h
theorem drop_get {l ys : List α} {j : Nat} (h : ys.drop j = l.drop j) : ys.getD j default = l.getD j default := by
  have := congrArg (fun q : List α => q[0]?) h
  simpa [List.getD_eq_getElem?_getD] using congrArg (fun o : Option α => o.getD default) this
def DelPost (d : Kd α) (p : α → Bool) (xs : List α) (base : Nat) (ok : Nat → Prop) (w0 : World) (e : Ending) (w' : World) : Prop := ∃ v' : Value, e = .returned v' ∧ d.R 54 w' base ok v' (xs.filter fun x => !p x) ∧ Below base w0 w'
theorem kinfo : (Try.prog.info? 54).map (·.size) = some 2 := by kernel_rfl
theorem infoC : (Try.prog.info? 54).map (fun i => (i.zero, i.size, i.bytes)) = some (some (.agg #[.int .i64 0, .int .i64 0]), 2, 16) := by kernel_rfl
set_option maxHeartbeats 4000000 in
set_option maxRecDepth 100000 in
theorem deleteFunc_c (hs : d.sz = 2) (ho : ∀ w x cs, d.K w x cs → cs = [.int .i64 (fa x), .int .i64 (fb x)]) (hmk : ∀ w base ok x, d.M w base ok x [.int .i64 (fa x), .int .i64 (fb x)]) (p : α → Bool) (g : Nat) (lb : Array Value) (eg : ∀ args w, (callFunc g args).run Try.prog w = .ok (.enter g args) w)
    (v : Value) (xs : List α) (base : Nat) (ok : Nat → Prop) (w0 w : World) (hB : Below base w0 w) (hb0 : base ≤ w0.heap.size) (hO : d.R 54 w base ok v xs) (hp : PredAbove g lb fa fb p xs base w0) :
    Calls Try.prog 110 #[v, .func (.func g) #[] lb] w (DelPost d p xs base ok w0) := by
  have hu := Try.underlying54
  obtain ⟨A, c, rfl⟩ := Kd.R_slice hO
  have hR := (Kd.R_reads' hO).2
  have hbw : base ≤ w.heap.size := Nat.le_trans hb0 hB.size
  have hF := firstFunc hs ho p g lb eg A c xs base w0 w hB hbw hR.2 hp
  have hmax : (xs.length : Int) ≤ 9223372036854775807 := by have := Kd.C_max hR.2; omega
  have HO := Aside0.mk hO
  have HB := Aside0.mk hB
  have HC := Aside0.mk hR.1
  have HP := Aside0.mk hp
  have HB0 := Aside0.mk hb0
  clear hO hB hR hbw hp hb0
  go_enter Try.func110, Try.ntmps110
  go_wp2_with fail
  refine hF.mono ?_
  rintro e w1 ⟨n, rfl, hb1, hn⟩
  have HO1 := Aside0.mk (Kd.R_below HO.out hb1)
  have HB1 := Aside0.mk (HB.out.trans (hb1.mono (Nat.le_trans HB0.out HB.out.size)))
  clear hb1 hF HB
  rcases hn with ⟨rfl, hall⟩ | ⟨i0, rfl, hi0, hpi, hall⟩
  · have HA := Aside0.mk hall
    clear hall
    go_wp2
    go_ret
    exact ⟨_, rfl, by rw [filter_none HA.out]; exact HO1.out, HB1.out⟩
  · obtain ⟨g0, c0, e0, hbg, hlg, _⟩ := Kd.R_form HO1.out (by omega)
    injection e0 with ea en ec
    subst ea
    subst ec
    clear en
    have HA := Aside0.mk hall
    have HI := Aside0.mk hpi
    have HL := Aside0.mk hi0
    clear hall hpi hlg hbg
    have d1 : ((i0 : Int) == -1) = false := by rw [beq_eq_false_iff_ne]; omega
    have hw1 : wrap64 ((i0 : Int) + 1) = ((i0 + 1 : Nat) : Int) := by unfold wrap64; omega
    have HW1 := Aside0.mk hw1
    clear hw1 hi0
    go_wp2
    go_loopg [5, 6] xs.length (fun gg s5 s6 wr => ∃ (ii jj : Nat) (ys : List α), s5 = .int .i64 (ii : Int) ∧ s6 = .int .i64 (jj : Int) ∧ ii < jj ∧ jj ≤ xs.length ∧ xs.length - jj ≤ gg ∧ ys.length = xs.length ∧ Aside0 (ys.take ii = (xs.take jj).filter fun x => !p x) ∧ Aside0 (ys.drop jj = xs.drop jj) ∧ Aside0 (d.R 54 wr base ok (.slice (some ⟨g0, 0, none⟩) xs.length c) ys) ∧ Aside0 (Below base w0 wr))
    case atStart => exact ⟨i0, i0 + 1, xs, rfl, by rw [HW1.out], by omega, by have := HL.out; omega, by omega, rfl, ⟨start_filter HA.out HI.out HL.out⟩, ⟨rfl⟩, HO1, HB1⟩
    case round =>
      clear HA HI HL HO1 HB1 HO d1 HW1
      obtain ⟨ii, jj, ys, rfl, rfl, hij, hjj, hg, hlen, HT, HD, HO, HB⟩ := hrel
      have hC := (Kd.R_reads' HO.out).2.2
      by_cases hlt : (jj : Int) < (xs.length : Int)
      · have hx := drop_get HD.out
        obtain ⟨ad, ea, q0, q1⟩ := at_pair hs ho hC (jj : Int) (by omega) (by omega)
        injection ea with ea
        subst ea
        rw [show ((jj : Int)).toNat = jj by omega, hx] at q0 q1
        simp only [add_plain] at q0 q1
        obtain ⟨x, hxx⟩ : ∃ x, x = xs.getD jj default := ⟨_, rfl⟩
        rw [← hxx] at q0 q1
        have hcall := HP.out (wr.alloc (.cells #[.int .i64 (fa x), .int .i64 (fb x)] 54 (0, 0))) x (by rw [hxx]; exact mem_getD (by omega)) (HB.out.alloc (Nat.le_trans HB0.out HB.out.size) _)
        have HX := Aside0.mk hxx
        have k0 : (0 : Int) ≤ (jj : Int) := by omega
        have k1 : (jj : Int) < (xs.length : Int) := by omega
        have HW := Aside0.mk (show wrap64 ((jj : Int) + 1) = ((jj + 1 : Nat) : Int) by unfold wrap64; omega)
        have HL := Aside0.mk hlen
        clear hxx hx hC hlen
        cases hq : p x with
        | true =>
          rw [hq] at hcall
          have HQ := Aside0.mk hq
          clear hq
          go_wp2_with (go_at_fn g; refine hcall.mono ?_; rintro e w2 ⟨rfl, hb2⟩; have HB2 := Aside0.mk hb2; clear hb2)
          go_roundg (gk - 1)
          case measure => omega
          case rel => exact ⟨ii, jj + 1, ys, rfl, by go_num, by omega, by omega, by omega, HL.out, ⟨next_true HT.out (by omega) (by rw [← HX.out]; exact HQ.out)⟩, ⟨drop_next HD.out⟩, ⟨Kd.R_below (Kd.R_alloc HO.out _) HB2.out⟩, ⟨(HB.out.alloc (Nat.le_trans HB0.out HB.out.size) _).trans (HB2.out.mono (Nat.le_trans HB0.out (HB.out.alloc (Nat.le_trans HB0.out HB.out.size) _).size))⟩⟩
        | false =>
          rw [hq] at hcall
          have HQ := Aside0.mk hq
          clear hq
          have m0 : (0 : Int) ≤ (ii : Int) := by omega
          have m1 : (ii : Int) < (xs.length : Int) := by omega
          have HW3 := Aside0.mk (show wrap64 ((ii : Int) + 1) = ((ii + 1 : Nat) : Int) by unfold wrap64; omega)
          have hbx : ∀ w2, Below (wr.alloc (.cells #[.int .i64 (fa x), .int .i64 (fb x)] 54 (0, 0))).heap.size (wr.alloc (.cells #[.int .i64 (fa x), .int .i64 (fb x)] 54 (0, 0))) w2 → w2.cell? ⟨wr.heap.size, 0, none⟩ = some (.int .i64 (fa x)) ∧ w2.cell? ⟨wr.heap.size, 1, none⟩ = some (.int .i64 (fb x)) := fun w2 hb => ⟨(blk_cell (blk_below (blk_new wr _) hb) 0).trans rfl, (blk_cell (blk_below (blk_new wr _) hb) 1).trans rfl⟩
          go_wp2_with (first | (go_at_fn g; refine hcall.mono ?_; rintro e w2 ⟨rfl, hb2⟩; obtain ⟨z0, z1⟩ := hbx _ hb2; have HB2 := Aside0.mk ((HB.out.alloc (Nat.le_trans HB0.out HB.out.size) (.cells #[.int .i64 (fa x), .int .i64 (fb x)] 54 (0, 0))).trans (hb2.mono (Nat.le_trans HB0.out (HB.out.alloc (Nat.le_trans HB0.out HB.out.size) _).size))); have HO2 := Aside0.mk (Kd.R_below (Kd.R_alloc HO.out (.cells #[.int .i64 (fa x), .int .i64 (fb x)] 54 (0, 0))) hb2); clear hb2; obtain ⟨cs, hcl, _, hcc, _⟩ := Kd.R_elem HO2.out default (ii : Int) m0 m1; have HCL := Aside0.mk hcl; have HCC := Aside0.mk hcc; clear hcl hcc) | ((with_reducible refine gate_store (t := 54) (p := 33) rfl ?_); refine Kd.R_store d (w0 := w0) base rfl rfl 54 (.tmp 33) (.tmp 32) rfl 54 (ii : Int) 0 ys x (.agg #[.int .i64 (fa x), .int .i64 (fb x)]) [.int .i64 (fa x), .int .i64 (fb x)] cs ok (fun _ => False) rfl ?hoff rfl rfl ?ht ?h1 HO2.out m0 m1 HCL.out HCC.out ?hj ?hM (fun _ hk => hk.elim) HB2.out ?_; (case hoff => rw [hs, Int.toNat_natCast, Nat.add_zero]); (case ht => exact kinfo); (case h1 => intro q hq; simp only [List.mem_cons, List.not_mem_nil, or_false] at hq; rcases hq with rfl | rfl <;> rfl); (case hj => rw [hs]; simp); (case hM => have hl2 := HCL.out; rw [hs] at hl2; rw [List.take_zero, List.nil_append, List.drop_eq_nil_of_le (by simp [hl2]), List.append_nil]; exact hmk _ _ _ x); intro w3 ho3 hb3 hg3; have HO3 := Aside0.mk ho3; have HB3 := Aside0.mk hb3; clear ho3 hb3 hg3))
          go_roundg (gk - 1)
          case measure => omega
          case rel =>
            refine ⟨ii + 1, jj + 1, ys.set ii x, by go_num, by go_num, by omega, by omega, by omega, by rw [List.length_set]; exact HL.out, ⟨?_⟩, ⟨drop_set HD.out hij⟩, ⟨?_⟩, HB3⟩
            · rw [HX.out]
              exact next_false HT.out (by omega) (by have := HL.out; omega) (by rw [← HX.out]; exact HQ.out)
            · have := HO3.out
              rwa [Int.toNat_natCast] at this
      · have hje : jj = xs.length := by omega
        subst hje
        have hT := HT.out
        rw [List.take_length] at hT
        obtain ⟨i01, hi01, _, hsz1, _⟩ := info_parts infoC
        have hnc := HC.out
        have hcutA := cut_to (P := Try.prog) 31 54 .i64 Try.underlying31 hi01 (some ⟨g0, 0, none⟩) xs.length c (ii : Int) (by omega) (by omega) hnc
        have hcutB := cut_from (P := Try.prog) 31 54 .i64 Try.underlying31 hi01 2 hsz1 (some ⟨g0, 0, none⟩) xs.length c (ii : Int) (by omega) (by omega)
        rw [Int.toNat_natCast] at hcutA hcutB
        rw [if_neg (by omega), Option.map_some, add_plain] at hcutB
        have hroom := fun j (hj : j < (xs.length - ii) * 2) => R_room HO.out (ii * 2 + j) (by rw [hs]; omega)
        obtain ⟨zs, hzl, hclr⟩ : ∃ zs : List Value, zs.length = (xs.length - ii) * 2 ∧ ∀ ty, (Builtin.clear_ #[31] ty #[.slice (some ⟨g0, ii * 2, none⟩) (xs.length - ii) (c - ii)]).run Try.prog wr = .ok (.tuple #[]) (wr.setCells g0 (ii * 2) zs) := by
          obtain ⟨zs, hz1, hz2⟩ := run_clear_many (P := Try.prog) wr 31 54 (.agg #[.int .i64 0, .int .i64 0]) Try.underlying31 (fun w => rfl) (by simp [Value.cells, Value.oneCell']) g0 (ii * 2) (xs.length - ii) (c - ii) (by omega) (fun j hj => (hroom j hj).1) (fun j hj => (hroom j hj).2)
          exact ⟨zs, hz1, hz2⟩
        have HF := R_beyond (Kd.R_take HO.out (m := ii) (by omega)) zs (ii * 2) (by rw [hs]; exact Nat.le_refl _) (by rw [hs, hzl]; omega)
        have HF1 := Aside0.mk HF.1
        have HB9 := Aside0.mk (show Below base w0 (wr.setCells g0 (ii * 2) zs) from HB.out.grown HF.2 (Nat.le_trans HB0.out HB.out.size) (fun k hk => by injection hk with hk; subst hk; exact Kd.R_base HO.out _ (by simp [Value.ownBlock])))
        have HT' := Aside0.mk hT
        have HL := Aside0.mk hlen
        have HIJ := Aside0.mk hij
        clear HF hT hzl hroom hlen hij hnc hg hjj hlt hC HT HD HO HB
        go_wp2
        go_ret
        exact ⟨_, rfl, by rw [← HT'.out]; exact HF1.out, HB9.out⟩
end
end Go.Proofs.Ytgcpbaipdpchfaa.H
