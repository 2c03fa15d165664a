/- slices.Insert of one call at place 1 of a row of one's own, with room and without. -/
import Derived.Test.YtelhjfalkhmhkaaHInsert
import Derived.Test.YtelhjfalkhmhkaaHDelete
import Derived.Lib.Overlaps
import Derived.Lib.AppendZerosOnto
import Derived.Lib.Walk
import Derived.Lib.SliceRun
import Derived.Laws.Externs
import Derived.Shelf.RegionOpenPlain
set_option linter.unusedVariables false
set_option linter.unusedSimpArgs false
namespace Go.Proofs.Ytelhjfalkhmhkaa.H
open Go.RowKit Go.Lib Go.Proofs.YtelhjfalkhmhkaaW.PrintWords Go.Proofs.YtelhjfalkhmhkaaW.PrintLast Go.Proofs.YtelhjfalkhmhkaaW.PrintMore
theorem copy_law {P : Program} {ops : Array Oper} {o : Oper} {a : Act} {w : World} {K : Act → World → Prop} {Q : Exit → Act → World → Prop} {E : Prop}
    (hg : o.guard = none) (d x : Operand) (dT sT : TypeId) (hop : o.op = Op.call { callee := Callee.builtin Builtin.copy, args := #[d, x], argTypes := #[dT, sT] })
    (v u : Value) (hd : a.eval d = v) (hx : a.eval x = u) {v' : Value} {w' : World} (hr : (Builtin.copy_ #[dT, sT] o.type #[v, u]).run P w = .ok v' w') (hK : K (a.put o.dst v') w') :
    if Region.wanted o (yielded ops a.tmps) = true then Oper.wp P o a w K Q else E := by
  have hw : Region.wanted o (yielded ops a.tmps) = true := by simp [Region.wanted, hg]
  rw [if_pos hw]
  unfold Oper.wp
  simp [execOp, hop, resolve, invoke, builtin, hd, hx, hr, Result.andThen]
  exact hK
theorem some_setCells (b : Nat) (vs : List Value) (o : Nat) (w : World) (h : ∀ j, j < vs.length → (w.cell? ⟨b, o + j, none⟩).isSome = true) (k : Nat) (hk : (w.cell? ⟨b, k, none⟩).isSome = true) : ((w.setCells b o vs).cell? ⟨b, k, none⟩).isSome = true := by
  by_cases hin : o ≤ k ∧ k < o + vs.length
  · have := World.cell?_setCells_in b vs o w h (k - o) (by omega)
    rw [show o + (k - o) = k by omega] at this
    rw [this]; rfl
  · rw [World.cell?_setCells_out b vs o w ⟨b, k, none⟩ (fun _ _ => by show k < o ∨ o + vs.length ≤ k; omega)]
    exact hk
theorem w64_near (n : Nat) (h : n ≤ 200) : wrap64 (n : Int) = (n : Int) := by unfold wrap64; omega
theorem w64_near1 (n : Nat) (h : n ≤ 200) : wrap64 ((n : Int) + 1) = (n : Int) + 1 := by unfold wrap64; omega
set_option maxHeartbeats 4000000 in
set_option maxRecDepth 100000 in
theorem insert_grow (b n c vb : Nat) (cs vs : List Value) (w : World) (hn2 : 2 ≤ n) (hn100 : n ≤ 100) (hnc : n ≤ c) (hroom : c < n + 1) (hcl : cs.length = n * 2) (hvl : vs.length = 2)
    (hcs : ∀ j v, cs[j]? = some v → w.cell? ⟨b, j, none⟩ = some v)
    (hvs : ∀ j v, vs[j]? = some v → w.cell? ⟨vb, j, none⟩ = some v) (h1c : ∀ v ∈ cs, v.oneCell' = true) (h1v : ∀ v ∈ vs, v.oneCell' = true) :
    Calls Try.prog 57 #[.slice (some ⟨b, 0, none⟩) n c, .int .i64 1, .slice (some ⟨vb, 0, none⟩) 1 1] w fun e w' =>
      e = .returned (.slice (some ⟨w.heap.size, 0, none⟩) (n + 1) (grownCap w (n + 1) c 64)) ∧
      w' = (((w.alloc (.cells ((cs.take 2).toArray ++ Builtin.zeroCells (Value.agg #[.int .i64 0, .int .i64 0]).cells n ++ Builtin.zeroCells (Value.agg #[.int .i64 0, .int .i64 0]).cells (grownCap w (n + 1) c 64 - (n + 1))) 64)).drew.setCells w.heap.size 2 vs).drew).setCells w.heap.size 4 (cs.drop 2) := by
  have mixed : Try.prog.follows .mixedOrders = true := by kernel_rfl
  obtain ⟨i0, hi0, hz0, hzs, hzb⟩ := info_parts (show (Try.prog.info? 64).map (fun i => (i.zero, i.size, i.bytes)) = some (some (.agg #[.int .i64 0, .int .i64 0]), 2, 16) by kernel_rfl)
  have hz2 : ¬ ((1 : Int) = (n : Int)) := by omega
  have hz3 : (c : Int) < (n : Int) + 1 := by omega
  have hsz : (Try.prog.info? 64).map (·.size) = some 2 := by rw [hi0]; simp [hzs]
  have hbw : b < w.heap.size := block_lt_of_cell (hcs 0 _ (List.getElem?_eq_getElem (by omega)))
  have hvw : vb < w.heap.size := block_lt_of_cell (hvs 0 _ (List.getElem?_eq_getElem (by omega)))
  have hold : (Builtin.firstCells i0.size 1 (.slice (some ⟨b, 0, none⟩) 1 c)).run Try.prog w.drew = .ok (cs.take 2).toArray w.drew := by
    rw [hzs]
    exact run_firstCells_some w.drew 2 1 ⟨b, 0, none⟩ 1 c (cs.take 2) (by rw [List.length_take]; omega) (fun j v hj => by
      rw [Addr.add_lit, Nat.zero_add]
      rw [List.getElem?_take] at hj
      split at hj
      · exact hcs j v hj
      · cases hj)
  have hrz : ∀ ty, (Builtin.append_ #[22, 3] ty #[.slice (some ⟨b, 0, none⟩) 1 c, .int .i64 (n : Int)]).run Try.prog w =
      .ok (.slice (some ⟨w.heap.size, 0, none⟩) (n + 1) (grownCap w (n + 1) c 64)) (w.drew.alloc (.cells ((cs.take 2).toArray ++ Builtin.zeroCells (Value.agg #[.int .i64 0, .int .i64 0]).cells n ++ Builtin.zeroCells (Value.agg #[.int .i64 0, .int .i64 0]).cells (grownCap w (n + 1) c 64 - (n + 1))) 64)) := fun ty => by
    have h := Lib.run_append_grow_zeros (P := Try.prog) w 22 3 ty 64 i0 _ .i64 .i64 Try.underlying22 (by kernel_rfl) hi0 hz0 (some ⟨b, 0, none⟩) 1 c (cs.take 2) hold n (by omega) (by omega) (by omega) (by omega) (by rw [hzb]; omega) (by rw [hzb]; have := nextslicecap_le (show c < 1 + n by omega); omega)
    rw [Nat.add_comm 1 n] at h
    exact h
  obtain ⟨G, hG⟩ : ∃ G, G = grownCap w (n + 1) c 64 := ⟨_, rfl⟩
  obtain ⟨ROW, hROW⟩ : ∃ ROW : Array Value, ROW = (cs.take 2).toArray ++ Builtin.zeroCells (Value.agg #[.int .i64 0, .int .i64 0]).cells n ++ Builtin.zeroCells (Value.agg #[.int .i64 0, .int .i64 0]).cells (G - (n + 1)) := ⟨_, rfl⟩
  rw [← hG] at hrz ⊢
  rw [← hROW] at hrz ⊢
  have hRl : 2 * (n + 1) ≤ ROW.size := by
    rw [hROW]
    simp [Builtin.zeroCells, Value.cells]
    omega
  obtain ⟨W1, hW1⟩ : ∃ W1, W1 = w.drew.alloc (.cells ROW 64) := ⟨_, rfl⟩
  rw [← hW1] at hrz
  have hN : ∀ j, j < 2 * (n + 1) → (W1.cell? ⟨w.heap.size, j, none⟩).isSome = true := fun j hj => by
    rw [hW1, World.cell?_alloc_at (w := w.drew) ROW _ w.heap.size j rfl, Array.getElem?_eq_getElem (by omega)]; rfl
  have hNf : ∀ j, W1.frozen? ⟨w.heap.size, j, none⟩ = false := fun j => by rw [hW1]; exact World.frozen?_alloc_at (w := w.drew) ROW _ w.heap.size j rfl
  have hOb : ∀ j v, w.cell? ⟨b, j, none⟩ = some v → W1.cell? ⟨b, j, none⟩ = some v := fun j v h => by rw [hW1, World.cell?_alloc_past (w := w.drew) _ b j hbw]; exact h
  have hOv : ∀ j v, w.cell? ⟨vb, j, none⟩ = some v → W1.cell? ⟨vb, j, none⟩ = some v := fun j v h => by rw [hW1, World.cell?_alloc_past (w := w.drew) _ vb j hvw]; exact h
  have hmn : Nat.min 1 n = 1 := Nat.min_eq_left (by omega)
  have hmm : Nat.min (n - 1) (n - 1) = n - 1 := Nat.min_self _
  have hcpA : ∀ (W : World), (∀ x, W.cell? x = W1.cell? x) → (∀ x, W.frozen? x = W1.frozen? x) → ∀ ty dc, (Builtin.copy_ #[22, 22] ty #[.slice (some ⟨w.heap.size, 2, none⟩) n dc, .slice (some ⟨vb, 0, none⟩) 1 1]).run Try.prog W = .ok (goInt 1) (W.setCells w.heap.size 2 vs) := fun W hWc hWf ty dc => by
    have h := run_copy_sized (P := Try.prog) W 22 22 ty 64 2 w.heap.size 2 n dc ⟨vb, 0, none⟩ 1 1 vs Try.underlying22 hsz (by rw [hvl, hmn])
      (fun j v hj => by rw [Addr.add_lit, hWc, Nat.zero_add]; exact hOv _ v (hvs j v hj))
      (fun j hj => by rw [hWc]; exact hN _ (by omega)) (fun j hj => by rw [hWf]; exact hNf _) h1v
    rw [hmn] at h
    exact h
  have hGn : n + 1 ≤ G := by rw [hG]; exact grownCap_ge w _ _ _
  have hG63 : G ≤ 9223372036854775807 := by
    have := grownCap_le_maxLen w (n + 1) c 64 (by unfold maxLen; omega)
    rw [← hG] at this
    unfold maxLen at this
    omega
  have hGi : ¬ (G = 1) := by omega
  have hGim : ¬ (G = 2) := by omega
  have hci : ¬ (c = 1) := by omega
  have hbN : b ≠ w.heap.size := by omega
  have hdl : (cs.drop 2).length = (n - 1) * 2 := by rw [List.length_drop, hcl]; omega
  have hcpB : ∀ (W : World), (∀ x, W.cell? x = (W1.setCells w.heap.size 2 vs).cell? x) → (∀ x, W.frozen? x = (W1.setCells w.heap.size 2 vs).frozen? x) → ∀ ty dc sc, (Builtin.copy_ #[22, 22] ty #[.slice (some ⟨w.heap.size, 4, none⟩) (n - 1) dc, .slice (some ⟨b, 2, none⟩) (n - 1) sc]).run Try.prog W = .ok (goInt (Nat.min (n - 1) (n - 1))) (W.setCells w.heap.size 4 (cs.drop 2)) := fun W hWc hWf ty dc sc =>
    run_copy_sized (P := Try.prog) W 22 22 ty 64 2 w.heap.size 4 (n - 1) dc ⟨b, 2, none⟩ (n - 1) sc (cs.drop 2) Try.underlying22 hsz (by rw [hdl, hmm])
      (fun j v hj => by
        rw [Addr.add_lit, hWc, World.cell?_setCells_out _ _ _ _ _ (fun h _ => absurd h hbN)]
        exact hOb _ v (hcs (2 + j) v (by rwa [List.getElem?_drop] at hj)))
      (fun j hj => by rw [hWc]; exact some_setCells _ _ _ _ (fun t ht => hN _ (by omega)) _ (hN _ (by omega)))
      (fun j hj => by rw [hWf, World.frozen?_setCells]; exact hNf _) (fun v hv => h1c v (List.mem_of_mem_drop hv))
  subst hW1
  have hE1 : ∀ x, ((w.alloc (.cells ROW 64)).drew).cell? x = (w.drew.alloc (.cells ROW 64)).cell? x := fun x => rfl
  have hE2 : ∀ x, ((w.alloc (.cells ROW 64)).drew).frozen? x = (w.drew.alloc (.cells ROW 64)).frozen? x := fun x => rfl
  have hF1 : ∀ x, (((w.alloc (.cells ROW 64)).drew.setCells w.heap.size 2 vs).drew).cell? x = ((w.drew.alloc (.cells ROW 64)).setCells w.heap.size 2 vs).cell? x := fun x => rfl
  have hF2 : ∀ x, (((w.alloc (.cells ROW 64)).drew.setCells w.heap.size 2 vs).drew).frozen? x = ((w.drew.alloc (.cells ROW 64)).setCells w.heap.size 2 vs).frozen? x := fun x => rfl
  have hin : (1 : Int) ≤ (n : Int) := by omega
  have hw2 : IntKind.i64.wrap 2 = 2 := by rw [IntKind.wrap_i64]; rfl
  have hin2 : (2 : Int) ≤ (n : Int) + 1 := by omega
  have ha1 : (n : Int) + 1 - 1 = (n : Int) := by omega
  have ha2 : wrap64 ((n : Int) + 1) = (n : Int) + 1 := w64_near1 n (Nat.le_trans hn100 (by decide))
  have hrz' := hrz
  clear hG63 hbN hbw hvw
  clear hold hROW hG hRl hcs hvs h1c h1v hcl hvl hdl hN hNf hOb hOv hrz
  go_enter Try.func57, Try.ntmps57
  go_wp2_with (first
    | (at_builtin; refine Lib.wpList_append_run _ rfl _ _ _ _ rfl _ _ rfl rfl _ _ (hrz' _) ?_)
    | (at_builtin; refine wpList_copy_run _ rfl _ _ 22 22 rfl _ _ rfl rfl _ _ (hcpA _ hE1 hE2 _ _) ?_))
  go_region_law_o (refine copy_law rfl _ _ 22 22 rfl (.slice (some ⟨w.heap.size, 4, none⟩) (n - 1) (G - 2)) (.slice (some ⟨b, 2, none⟩) (n - 1) (c - 1)) (by simp [Act.eval, Act.put]) (by simp [Act.eval, Act.put]) (hcpB _ hF1 hF2 3 (G - 2) (c - 1)) ?_)
  go_wp2
  go_ret
  exact ⟨rfl, rfl⟩
set_option maxHeartbeats 4000000 in
set_option maxRecDepth 100000 in
theorem insert_shift (b n c vb : Nat) (cs vs : List Value) (w : World) (hn2 : 2 ≤ n) (hn100 : n ≤ 100) (hroom : n + 1 ≤ c) (hvb : vb ≠ b) (hcl : cs.length = n * 2) (hvl : vs.length = 2)
    (hcs : ∀ j v, cs[j]? = some v → w.cell? ⟨b, j, none⟩ = some v) (hsp : ∀ j, j < (n + 1) * 2 → (w.cell? ⟨b, j, none⟩).isSome = true) (hfz : ∀ j, j < (n + 1) * 2 → w.frozen? ⟨b, j, none⟩ = false)
    (hvs : ∀ j v, vs[j]? = some v → w.cell? ⟨vb, j, none⟩ = some v) (h1c : ∀ v ∈ cs, v.oneCell' = true) (h1v : ∀ v ∈ vs, v.oneCell' = true)
    (tA tB : TypeId) (kA kB : Nat) (hsa : w.shape? vb = some (tA, kA)) (hsb : w.shape? b = some (tB, kB)) (hkB : kB ≠ 0) (hfa : w.frozen? ⟨vb, 0, none⟩ = false) (hfe : w.frozen? ⟨vb, kA, none⟩ = false) :
    Calls Try.prog 57 #[.slice (some ⟨b, 0, none⟩) n c, .int .i64 1, .slice (some ⟨vb, 0, none⟩) 1 1] w fun e w' =>
      e = .returned (.slice (some ⟨b, 0, none⟩) (n + 1) c) ∧ w' = (w.drew.setCells b 4 (cs.drop 2)).setCells b 2 vs := by
  have mixed : Try.prog.follows .mixedOrders = true := by kernel_rfl
  have hz2 : ¬ ((1 : Int) = (n : Int)) := by omega
  have hsz : (Try.prog.info? 64).map (·.size) = some 2 := by kernel_rfl
  have hzz : ∀ w, (Go.sizeOf 64).run Try.prog w = .ok 2 w := fun w => by
    cases hq : Try.prog.info? 64 with
    | none => rw [hq] at hsz; simp at hsz
    | some i => rw [hq] at hsz; have : i.size = 2 := by simpa using hsz
                simp [Go.sizeOf, typeInfo, hq, this]
  have hov : ∀ lb cb, (callFunc 91 #[.slice (some ⟨vb, 0, none⟩) 1 1, .slice (some ⟨b, 4, none⟩) lb cb]).run Try.prog w = .ok (.value (.bool false)) w := fun lb cb => by
    rw [run_callFunc_extern Try.func91 (by kernel_rfl) (by kernel_rfl) (by kernel_rfl) (e := Extern.SlicesOverlaps.overlaps #[22, 22] #[4]) (by kernel_rfl),
      Lib.run_overlaps_apart w 22 4 64 Try.underlying22 2 hzz ⟨vb, 0, none⟩ ⟨b, 4, none⟩ 1 1 lb cb hvb tA tB kA kB hsa hsb hkB hfa hfe]
    rfl
  have hdl : (cs.drop 2).length = (n - 1) * 2 := by rw [List.length_drop, hcl]; omega
  have hmn : Nat.min 1 n = 1 := Nat.min_eq_left (by omega)
  have hmm : Nat.min n (n - 1) = n - 1 := Nat.min_eq_right (by omega)
  have hcp1 : ∀ ty dc sc, (Builtin.copy_ #[22, 22] ty #[.slice (some ⟨b, 4, none⟩) (n - 1) dc, .slice (some ⟨b, 2, none⟩) n sc]).run Try.prog w.drew = .ok (goInt (Nat.min n (n - 1))) (w.drew.setCells b 4 (cs.drop 2)) := fun ty dc sc =>
    run_copy_sized (P := Try.prog) w.drew 22 22 ty 64 2 b 4 (n - 1) dc ⟨b, 2, none⟩ n sc (cs.drop 2) Try.underlying22 hsz (by rw [hdl, hmm])
      (fun j v hj => by rw [Addr.add_lit]; exact hcs (2 + j) v (by rwa [List.getElem?_drop] at hj))
      (fun j hj => hsp _ (by omega)) (fun j hj => hfz _ (by omega)) (fun v hv => h1c v (List.mem_of_mem_drop hv))
  obtain ⟨W1, hW1⟩ : ∃ W1, W1 = w.drew.setCells b 4 (cs.drop 2) := ⟨_, rfl⟩
  have hsp1 : ∀ k, k < (n + 1) * 2 → (W1.cell? ⟨b, k, none⟩).isSome = true := fun k hk => by
    rw [hW1]
    exact some_setCells b (cs.drop 2) 4 w.drew (fun j hj => hsp _ (by rw [hdl] at hj; omega)) _ (hsp k hk)
  have hcp2 : ∀ (W : World), (∀ x, W.cell? x = W1.cell? x) → (∀ x, W.frozen? x = W1.frozen? x) → ∀ ty dc, (Builtin.copy_ #[22, 22] ty #[.slice (some ⟨b, 2, none⟩) n dc, .slice (some ⟨vb, 0, none⟩) 1 1]).run Try.prog W = .ok (goInt 1) (W.setCells b 2 vs) := fun W hWc hWf ty dc => by
    have h := run_copy_sized (P := Try.prog) W 22 22 ty 64 2 b 2 n dc ⟨vb, 0, none⟩ 1 1 vs Try.underlying22 hsz (by rw [hvl, hmn])
      (fun j v hj => by
        rw [Addr.add_lit, hWc, hW1, World.cell?_setCells_out b _ _ _ _ (fun h _ => absurd h hvb), Nat.zero_add]
        exact hvs j v hj)
      (fun j hj => by rw [hWc]; exact hsp1 _ (by omega)) (fun j hj => by rw [hWf, hW1, World.frozen?_setCells]; exact hfz _ (by omega)) h1v
    rw [hmn] at h
    exact h
  rw [← hW1] at hcp1
  have hw2 : IntKind.i64.wrap 2 = 2 := by rw [IntKind.wrap_i64]; rfl
  have hin2 : (2 : Int) ≤ (n : Int) + 1 := by omega
  have hin : (1 : Int) ≤ (n : Int) := by omega
  have hin3 : (1 : Int) ≤ (n : Int) + 1 := by omega
  have hb2 : ¬ (c = 2) := by omega
  have hb4 : ¬ (c = 1) := by omega
  have ha2 : wrap64 ((n : Int) + 1) = (n : Int) + 1 := w64_near1 n (Nat.le_trans hn100 (by decide))
  have HW1 := Aside0.mk hW1
  clear hcs hvs h1c h1v hcl hvl hdl hsp hfz hsp1 hsa hsb hkB hfa hfe hvb hzz hmn hmm hsz hW1
  go_enter Try.func57, Try.ntmps57
  go_wp2_with (simp only [hov])
  go_region_law_o (refine copy_law rfl _ _ 22 22 rfl _ _ (by simp [Act.eval, Act.put]) (by simp [Act.eval, Act.put]) (hcp1 _ _ _) ?_)
  go_wp2_with (at_builtin; refine wpList_copy_run _ rfl _ _ 22 22 rfl _ _ rfl rfl _ _ (hcp2 _ (fun _ => rfl) (fun _ => rfl) _ _) ?_)
  go_ret
  exact ⟨rfl, by rw [HW1.out]⟩
end Go.Proofs.Ytelhjfalkhmhkaa.H
