/- slices.Insert on a row of one's own: append of made zeros behind a prefix that has no room. -/
import Derived.Test.YtelhjfalkhmhkaaHSplice
import Derived.Lib.AppendZeros
import Derived.Test.YtelhjfalkhmhkaaWRepsOne
namespace Go.Proofs.Ytelhjfalkhmhkaa.H
open Go.RowKit Go.Proofs.YtelhjfalkhmhkaaW.PrintWords Go.Proofs.YtelhjfalkhmhkaaW.PrintLast Go.Proofs.YtelhjfalkhmhkaaW.PrintMore
theorem run_append_zeros_grown {P : Program} (w : World) (t tn ty e : TypeId) (i : TypeInfo) (z : Value) (k kn : IntKind) (ht : P.underlying t = some (.slice e)) (htn : P.underlying tn = some (.int kn)) (hi : P.info? e = some i) (hz : i.zero = some z)
    (a : Addr) (l c n : Nat) (h0 : c < l + n) (hn0 : 0 < n) (hs : 0 < i.size) (olds : List Value) (hol : olds.length = l * i.size) (holds : ∀ j u, olds[j]? = some u → w.cell? (a.add j) = some u)
    (h63 : l + n ≤ 1048576) (hb : i.bytes ≤ 1024) :
    (Builtin.append_ #[t, tn] ty #[.slice (some a) l c, .int k n]).run P w =
      .ok (.slice (some ⟨w.heap.size, 0, none⟩) (l + n) (grownCap w (l + n) c e)) (w.drew.alloc (.cells (olds.toArray ++ Builtin.zeroCells z.cells n ++ Builtin.zeroCells z.cells (grownCap w (l + n) c e - (l + n))) e)) := by
  have hn : n ≠ 0 := by omega
  have hw : IntKind.i64.wrap (n : Int) = n := by rw [IntKind.wrap_i64]; omega
  have h63' : ¬ (9223372036854775807 < ((l : Int) + (n : Int))) := by omega
  have hcap : Builtin.nextslicecap (l + n) c ≤ 4194304 := by
    have := nextslicecap_le h0
    omega
  have h48' : ¬ (281474976710656 < Builtin.nextslicecap (l + n) c * i.bytes) := by
    have := Nat.mul_le_mul hcap hb
    omega
  have h48i : ¬ (281474976710656 < (n : Int) * (i.bytes : Int)) := by
    rw [← Int.natCast_mul]
    have : n * i.bytes ≤ 1048576 * 1024 := Nat.mul_le_mul (by omega) hb
    omega
  have hneg : ¬ ((n : Int) < 0) := by omega
  have hns : ¬ (n * i.size = 0) := Nat.mul_ne_zero hn (by omega)
  have hroom : ¬ (l + n ≤ c) := by omega
  have hl := run_loadCells_list (P := P) w.drew a olds holds
  simp [Builtin.append_, run_underlying ht, run_underlying htn, sizeOf, typeInfo, zeroValue, hi, hz, asInt, asIntOf, hw, hneg, hns, h63', h48', h48i, Question.forced, newRow, grownCap, hroom, Builtin.firstCells, ← hol, hl]
theorem wpList_copy_run {P : Program} (w : World) {ops : Array Oper} {rest : List Oper} {o : Oper} {a : Act} {Q : Exit → Act → World → Prop} (hgd : o.guard = none) (s x : Operand) (t tn : TypeId)
    (ho : o.op = .call { callee := .builtin .copy, args := #[s, x], argTypes := #[t, tn] }) (vs vx : Value) (hs : a.eval s = vs) (hx : a.eval x = vx)
    (v' : Value) (w' : World) (hr : (Builtin.copy_ #[t, tn] o.type #[vs, vx]).run P w = .ok v' w') (h : wpList P ops Q rest (a.put o.dst v') w') : wpList P ops Q (o :: rest) a w :=
  wpList_plain hgd fun _ hK => by
    unfold Oper.wp execOp
    simp [ho, resolve, invoke, builtin, hs, hx, hr]
    exact hK _ _ h
section
variable {α : Type} [Inhabited α] {d : Kd α} {fa fb : α → Int}
/-- The cells of a run of pairs. -/
def cellsOf (fa fb : α → Int) (l : List α) : List Value := l.flatMap fun x => [.int .i64 (fa x), .int .i64 (fb x)]
omit [Inhabited α] in
theorem cellsOf_length (l : List α) : (cellsOf fa fb l).length = l.length * 2 := by
  induction l with
  | nil => rfl
  | cons x l ih => rw [cellsOf, List.flatMap_cons, List.length_append, List.length_cons]; have : (l.flatMap fun x => [Value.int .i64 (fa x), .int .i64 (fb x)]).length = l.length * 2 := ih; rw [this]; simp; omega
theorem cellsOf_get : ∀ (l : List α) (j : Nat) (u : Value), (cellsOf fa fb l)[j]? = some u → j < l.length * 2 ∧ u = if j % 2 = 0 then .int .i64 (fa (l.getD (j / 2) default)) else .int .i64 (fb (l.getD (j / 2) default))
  | [], j, u, h => by simp [cellsOf] at h
  | x :: l, 0, u, h => by
    have : u = .int .i64 (fa x) := by simpa [cellsOf] using h.symm
    subst this; simp
  | x :: l, 1, u, h => by
    have : u = .int .i64 (fb x) := by simpa [cellsOf] using h.symm
    subst this; simp
    omega
  | x :: l, j + 2, u, h => by
    have h' : (cellsOf fa fb l)[j]? = some u := by simpa [cellsOf] using h
    obtain ⟨h1, h2⟩ := cellsOf_get l j u h'
    refine ⟨by simp; omega, ?_⟩
    rw [h2, show (j + 2) % 2 = j % 2 by omega, show (j + 2) / 2 = j / 2 + 1 by omega, List.getD_cons_succ]
theorem reads_cells (hs : d.sz = 2) (ho : ∀ w x cs, d.K w x cs → cs = [.int .i64 (fa x), .int .i64 (fb x)]) {W : World} {g : Nat} {xs : List α} (hC : Kd.C d W (some ⟨g, 0, none⟩) xs.length xs) (o j : Nat) (u : Value) (h : (cellsOf fa fb (xs.drop o))[j]? = some u) : W.cell? ⟨g, o * 2 + j, none⟩ = some u := by
  obtain ⟨h1, h2⟩ := cellsOf_get _ j u h
  rw [List.length_drop] at h1
  obtain ⟨ad, ea, q0, q1⟩ := at_pair hs ho hC ((o + j / 2 : Nat) : Int) (by omega) (by omega)
  injection ea with ea
  subst ea
  rw [Int.toNat_natCast] at q0 q1
  have e : (xs.drop o).getD (j / 2) default = xs.getD (o + j / 2) default := by simp [List.getD_eq_getElem?_getD]
  rw [e] at h2
  by_cases hp : j % 2 = 0
  · rw [if_pos hp] at h2
    rw [h2, ← q0]
    simp only [add_plain]
    congr 2
    omega
  · rw [if_neg hp] at h2
    rw [h2, ← q1]
    simp only [add_plain]
    congr 2
    omega
omit [Inhabited α] in
theorem reps_cellsOf {W : World} {base : Nat} {okp : Nat → Prop} (hmk : ∀ x, d.M W base okp x [.int .i64 (fa x), .int .i64 (fb x)]) : ∀ l : List α, Reps (d.M W base okp) 2 l (cellsOf fa fb l)
  | [] => Reps.none _ _
  | x :: l => Reps.c2 (hmk x) (reps_cellsOf hmk l)
theorem zeros_cellsOf {z : α} (h0 : fa z = 0) (h1 : fb z = 0) (n : Nat) : (Builtin.zeroCells (Value.agg #[.int .i64 0, .int .i64 0]).cells n).toList = cellsOf fa fb (List.replicate n z) := by
  apply List.ext_getElem?
  intro j
  by_cases hj : j < n * 2
  · have hl : j < (cellsOf fa fb (List.replicate n z)).length := by rw [cellsOf_length, List.length_replicate]; exact hj
    obtain ⟨u, hu⟩ : ∃ u, (cellsOf fa fb (List.replicate n z))[j]? = some u := ⟨_, List.getElem?_eq_getElem hl⟩
    obtain ⟨_, h2⟩ := cellsOf_get _ j u hu
    have hz : (List.replicate n z).getD (j / 2) default = z := by
      rw [List.getD_eq_getElem?_getD, List.getElem?_replicate, if_pos (by omega)]; rfl
    rw [hz, h0, h1] at h2
    rw [hu, h2]
    have hc : (Value.agg #[.int .i64 0, .int .i64 0]).cells = #[.int .i64 0, .int .i64 0] := rfl
    rw [hc]
    by_cases hp : j % 2 = 0
    · simp [Builtin.zeroCells, hp, hj]
    · have hp1 : j % 2 = 1 := by omega
      simp [Builtin.zeroCells, hp1, hj]
  · rw [List.getElem?_eq_none (by simp [Builtin.zeroCells, Value.cells]; omega), List.getElem?_eq_none (by rw [cellsOf_length, List.length_replicate]; omega)]
theorem grown_R (hs : d.sz = 2) {z : α} (h0 : fa z = 0) (h1 : fb z = 0) (hmk : ∀ W base okp x, d.M W base okp x [.int .i64 (fa x), .int .i64 (fb x)]) (w : World) (base n cap : Nat) (T : TypeId) (x0 : α) (hb : base ≤ w.heap.size) (hge : 1 + n ≤ cap) (hle : cap ≤ maxLen) :
    d.R T (w.drew.alloc (.cells ([Value.int .i64 (fa x0), .int .i64 (fb x0)].toArray ++ Builtin.zeroCells (Value.agg #[.int .i64 0, .int .i64 0]).cells n ++ Builtin.zeroCells (Value.agg #[.int .i64 0, .int .i64 0]).cells (cap - (1 + n))) T)) base (fun _ => True) (.slice (some ⟨w.heap.size, 0, none⟩) (1 + n) cap) (x0 :: List.replicate n z) := by
  refine ⟨fun _ _ => trivial, cellsOf fa fb (x0 :: List.replicate n z), ⟨by rw [cellsOf_length, hs, List.length_cons, List.length_replicate], .inr ⟨w.heap.size, cap, _, by rw [List.length_cons, List.length_replicate, Nat.add_comm], hb, heap_alloc_new w.drew _, by rw [List.length_cons, List.length_replicate]; omega, hle, ?_, ?_⟩⟩, by rw [hs]; exact reps_cellsOf (fun x => hmk _ _ _ x) _⟩
  · rw [hs]; simp [size_zeroCells, Value.cells]; omega
  · have e : cellsOf fa fb (x0 :: List.replicate n z) = [Value.int .i64 (fa x0), .int .i64 (fb x0)] ++ (Builtin.zeroCells (Value.agg #[.int .i64 0, .int .i64 0]).cells n).toList := by
      rw [zeros_cellsOf h0 h1]; rfl
    have hl : (cellsOf fa fb (x0 :: List.replicate n z)).length = (x0 :: List.replicate n z).length * d.sz := by rw [cellsOf_length, hs]
    rw [Array.toList_append, Array.toList_append, ← hl, e]
    exact List.take_left
end
end Go.Proofs.Ytelhjfalkhmhkaa.H
