/- slices.Insert of one call at place 1 of a row of one's own: the row. -/
import Derived.Test.YtelhjfalkhmhkaaHInsertB
namespace Go.Proofs.Ytelhjfalkhmhkaa.H
open Go.RowKit Go.Lib Go.Proofs.YtelhjfalkhmhkaaW.PrintWords Go.Proofs.YtelhjfalkhmhkaaW.PrintLast Go.Proofs.YtelhjfalkhmhkaaW.PrintMore
section
variable {α : Type} [Inhabited α] {d : Kd α} {fa fb : α → Int}
omit [Inhabited α] in
theorem cellsOf_one (fa fb : α → Int) : ∀ (l : List α) (v : Value), v ∈ cellsOf fa fb l → v.oneCell' = true := by
  intro l v hv
  unfold cellsOf at hv
  rw [List.mem_flatMap] at hv
  obtain ⟨x, _, hx⟩ := hv
  simp only [List.mem_cons, List.mem_nil_iff, or_false] at hx
  rcases hx with rfl | rfl <;> rfl
omit [Inhabited α] in
theorem list_grow (x0 x z : α) (rest : List α) (n : Nat) (hn : n = rest.length + 1) : (List.take 1 (x0 :: List.replicate n z) ++ [x] ++ List.drop (1 + [x].length) (x0 :: List.replicate n z)).take 2 ++ rest ++ (List.take 1 (x0 :: List.replicate n z) ++ [x] ++ List.drop (1 + [x].length) (x0 :: List.replicate n z)).drop (2 + rest.length) = x0 :: x :: rest := by
  subst hn
  have h : (List.take 1 (x0 :: List.replicate (rest.length + 1) z) ++ [x] ++ List.drop (1 + [x].length) (x0 :: List.replicate (rest.length + 1) z)) = x0 :: x :: List.replicate rest.length z := by simp [List.replicate_succ]
  rw [h, List.drop_of_length_le (by simp; omega)]
  simp
omit [Inhabited α] in
theorem list_shift (x0 x : α) (rest : List α) (hr : 1 ≤ rest.length) : ((x0 :: rest).take 2 ++ rest ++ (x0 :: rest).drop (2 + rest.length)).take 1 ++ [x] ++ ((x0 :: rest).take 2 ++ rest ++ (x0 :: rest).drop (2 + rest.length)).drop (1 + [x].length) = x0 :: x :: rest := by
  rw [List.drop_of_length_le (l := x0 :: rest) (by rw [List.length_cons]; omega)]
  cases rest with
  | nil => simp at hr
  | cons y rest => simp
theorem insert_R (hs : d.sz = 2) (ho : ∀ w x cs, d.K w x cs → cs = [.int .i64 (fa x), .int .i64 (fb x)]) {z : α} (h0 : fa z = 0) (h1 : fb z = 0) (hmk : ∀ W base okp x, d.M W base okp x [.int .i64 (fa x), .int .i64 (fb x)])
    (base gv : Nat) (t0 : TypeId) (x0 x : α) (rest : List α) (v : Value) (w : World) (hb : base ≤ w.heap.size) (hR : d.R 64 w base (fun _ => True) v (x0 :: rest)) (hr1 : 1 ≤ rest.length) (hr2 : rest.length ≤ 50)
    (hv : w.heap[gv]? = some (.cells #[.int .i64 (fa x), .int .i64 (fb x)] t0)) (hne : v.ownBlock ≠ some gv) :
    Calls Try.prog 57 #[v, .int .i64 1, .slice (some ⟨gv, 0, none⟩) 1 1] w fun e w' => ∃ v', e = .returned v' ∧ d.R 64 w' base (fun _ => True) v' (x0 :: x :: rest) ∧ Below base w w' := by
  have hR0 := hR
  obtain ⟨hok, inner, ⟨ho1, ho2⟩, hr⟩ := hR0
  rcases ho2 with ⟨_, hl0⟩ | ⟨g, cap, cur, hvv, hbg, hh, hnc', hcm, hcsz, ht⟩
  · simp at hl0
  clear hok ho1 hr ht inner
  subst hvv
  obtain ⟨n, hn⟩ : ∃ n, n = (x0 :: rest).length := ⟨_, rfl⟩
  have hn' : n = rest.length + 1 := by rw [hn, List.length_cons]
  rw [← hn] at hR hne hnc' ⊢
  have hgv : gv ≠ g := fun e => hne (by rw [e]; simp [Value.ownBlock])
  obtain ⟨_, hncap, hC⟩ := Kd.R_reads' hR
  have hcs : ∀ j u, (cellsOf fa fb (x0 :: rest))[j]? = some u → w.cell? ⟨g, j, none⟩ = some u := fun j u hj => by
    have := reads_cells (fa := fa) (fb := fb) hs ho (W := w) (g := g) (xs := x0 :: rest) hC 0 j u (by rw [List.drop_zero]; exact hj)
    rwa [Nat.zero_mul, Nat.zero_add] at this
  have hvs : ∀ j u, [Value.int .i64 (fa x), .int .i64 (fb x)][j]? = some u → w.cell? ⟨gv, j, none⟩ = some u := fun j u hj => by
    rw [blk_cell hv j]
    rw [← hj]
    match j with
    | 0 => rfl
    | 1 => rfl
    | j + 2 => simp
  have hvl : [Value.int .i64 (fa x), .int .i64 (fb x)].length = 2 := rfl
  have hcl : (cellsOf fa fb (x0 :: rest)).length = n * 2 := by rw [cellsOf_length, ← hn]
  have h1v : ∀ u ∈ [Value.int .i64 (fa x), .int .i64 (fb x)], u.oneCell' = true := cellsOf_one fa fb [x]
  by_cases hroom : cap < n + 1
  · refine (insert_grow g n cap gv (cellsOf fa fb (x0 :: rest)) [.int .i64 (fa x), .int .i64 (fb x)] w (by omega) (by omega) hncap hroom hcl hvl hcs hvs (cellsOf_one fa fb _) h1v).mono ?_
    rintro e w' ⟨rfl, rfl⟩
    obtain ⟨G, hG⟩ : ∃ G, G = grownCap w (n + 1) cap 64 := ⟨_, rfl⟩
    rw [← hG]
    have hGn : 1 + n ≤ G := by rw [hG, Nat.add_comm]; exact grownCap_ge w _ _ _
    have hGm : G ≤ maxLen := by rw [hG]; exact grownCap_le_maxLen w (n + 1) cap 64 (by unfold maxLen; omega)
    have hR1 := grown_R hs h0 h1 hmk w base n G 64 x0 hb hGn hGm
    rw [Nat.add_comm 1 n] at hR1
    have hB1 : Below base w (w.drew.alloc (.cells ([Value.int .i64 (fa x0), .int .i64 (fb x0)].toArray ++ Builtin.zeroCells (Value.agg #[.int .i64 0, .int .i64 0]).cells n ++ Builtin.zeroCells (Value.agg #[.int .i64 0, .int .i64 0]).cells (G - (n + 1))) 64)) := (below_drew1 (Below.refl base w)).alloc hb _
    have hs1 := R_splice (okp := fun _ => False) hR1 (ys := [x]) (seg := [.int .i64 (fa x), .int .i64 (fb x)]) (by rw [hs]; exact Reps.c2 (hmk _ _ _ x) (Reps.none _ _)) (fun _ h => h.elim) 1 (n + 1) (by omega) (by simp; omega) (by simp; omega)
    have hB2 := hB1.grown hs1.2 (Nat.le_trans hb hB1.size) (fun k hk => by injection hk with hk; subst hk; exact hb)
    have hs2 := R_splice (okp := fun _ => False) (Kd.R_drew hs1.1) (ys := rest) (seg := cellsOf fa fb rest) (by rw [hs]; exact reps_cellsOf (fun y => hmk _ _ _ y) rest) (fun _ h => h.elim) 2 (n + 1) (by omega) (by omega) (by omega)
    have hB3 := (below_drew1 hB2).grown hs2.2 (Nat.le_trans hb hB2.size) (fun k hk => by injection hk with hk; subst hk; exact hb)
    rw [hs] at hs2 hB3
    refine ⟨_, rfl, ?_, hB3⟩
    have e := list_grow x0 x z rest n hn'
    have h9 := hs2.1
    rw [e] at h9
    exact h9
  · obtain ⟨q1, q2⟩ : (∀ j, j < (n + 1) * 2 → (w.cell? ⟨g, j, none⟩).isSome = true) ∧ (∀ j, j < (n + 1) * 2 → w.frozen? ⟨g, j, none⟩ = false) :=
      ⟨fun j hj => (R_room hR j (by rw [hs]; omega)).1, fun j hj => (R_room hR j (by rw [hs]; omega)).2⟩
    refine (insert_shift g n cap gv (cellsOf fa fb (x0 :: rest)) [.int .i64 (fa x), .int .i64 (fb x)] w (by omega) (by omega) (by omega) hgv hcl hvl hcs q1 q2 hvs (cellsOf_one fa fb _) h1v t0 64 2 (cap * 2) (by simp [World.shape?, hv]) (by rw [← hs, ← hcsz]; simp [World.shape?, hh]) (by omega) (blk_frozen hv _) (blk_frozen hv _)).mono ?_
    rintro e w' ⟨rfl, rfl⟩
    have hs1 := R_splice (okp := fun _ => False) (Kd.R_drew hR) (ys := rest) (seg := cellsOf fa fb rest) (by rw [hs]; exact reps_cellsOf (fun y => hmk _ _ _ y) rest) (fun _ h => h.elim) 2 (n + 1) (by omega) (by omega) (by omega)
    have hB1 := (below_drew1 (Below.refl base w)).grown hs1.2 hb (fun k hk => by injection hk with hk; subst hk; exact hbg)
    have hs2 := R_splice (okp := fun _ => False) hs1.1 (ys := [x]) (seg := [.int .i64 (fa x), .int .i64 (fb x)]) (by rw [hs]; exact Reps.c2 (hmk _ _ _ x) (Reps.none _ _)) (fun _ h => h.elim) 1 (n + 1) (by omega) (by simp; omega) (by simp; omega)
    have hB2 := hB1.grown hs2.2 (Nat.le_trans hb hB1.size) (fun k hk => by injection hk with hk; subst hk; exact hbg)
    rw [hs] at hs2 hB2
    refine ⟨_, rfl, ?_, hB2⟩
    have e := list_shift x0 x rest hr1
    have h9 := hs2.1
    rw [e] at h9
    exact h9
end
end Go.Proofs.Ytelhjfalkhmhkaa.H
