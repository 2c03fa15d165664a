/- A run of elements laid into a row of one's own, inside its room; copy between slices whatever the elements' size. No condition: plain lemmas. -/
import Derived.Test.YtelhjfalkhmhkaaHBase
import Derived.Laws.IdiomCopy
namespace Go.Proofs.Ytelhjfalkhmhkaa.H
open Go.RowKit Go.Proofs.YtelhjfalkhmhkaaW.PrintWords Go.Proofs.YtelhjfalkhmhkaaW.PrintLast Go.Proofs.YtelhjfalkhmhkaaW.PrintMore

theorem R_splice {α : Type} {d : Kd α} {e g n cap base : Nat} {W : World} {ok okp : Nat → Prop} {xs ys : List α} {seg : List Value} (h : d.R e W base ok (.slice (some ⟨g, 0, none⟩) n cap) xs) (hys : Reps (d.M W base okp) d.sz ys seg) (hokp : ∀ k, okp k → ok k ∧ k ≠ g)
    (o N : Nat) (ho : o ≤ n) (hfit : o + ys.length ≤ cap) (hN : N = max n (o + ys.length)) :
    d.R e (W.setCells g (o * d.sz) seg) base ok (.slice (some ⟨g, 0, none⟩) N cap) (xs.take o ++ ys ++ xs.drop (o + ys.length)) ∧ W.grownBy (W.setCells g (o * d.sz) seg) (some g) := by
  obtain ⟨hn, hnc, _⟩ := Kd.R_reads' h
  obtain ⟨hok, inner, hown, hr⟩ := h
  have hin : inner.length = n * d.sz := by rw [hr.1, hn]
  obtain ⟨ho1, ho2⟩ := hown
  rcases ho2 with ⟨hv, _⟩ | ⟨g', cap', cur, hv, hb, hh, hnc', hcm, hcs, ht⟩
  · cases hv
  injection hv with ha _ hc
  injection ha with ha
  injection ha with hg
  subst hg; subst hc
  have hsl : seg.length = ys.length * d.sz := hys.1
  have hcl : cur.toList.length = cap * d.sz := by rw [Array.length_toList, hcs]
  have hfit' : o * d.sz + seg.length ≤ cap * d.sz := by rw [hsl, ← Nat.add_mul]; exact Nat.mul_le_mul_right _ hfit
  obtain ⟨cur', h3, h4, h5⟩ := setCells_row seg (o * d.sz) W cur hh (by rw [hcs]; exact hfit')
  obtain ⟨s1, s2, s3, s4⟩ := setCells_same g seg (o * d.sz) W
  have hfar : ∀ k, k ≠ g → (W.setCells g (o * d.sz) seg).heap[k]? = W.heap[k]? := fun k hk => setCells_far seg _ k hk
  have hgo : ∀ q : Nat, some g = (Value.slice (some ⟨g, 0, none⟩) q cap).ownBlock := fun q => by simp [Value.ownBlock]
  have hlen : (xs.take o ++ ys ++ xs.drop (o + ys.length)).length = N := by
    simp only [List.length_append, List.length_take, List.length_drop]
    omega
  have hon : o * d.sz ≤ n * d.sz := Nat.mul_le_mul_right _ ho
  have hxn : xs.length * d.sz = n * d.sz := by rw [← hn]
  have e1 : inner.take (o * d.sz) = cur.toList.take (o * d.sz) := by
    rw [← ht, List.take_take, Nat.min_eq_left (by rw [hxn]; exact hon)]
  have e2 : inner.drop ((o + ys.length) * d.sz) = (cur.toList.drop ((o + ys.length) * d.sz)).take (n * d.sz - (o + ys.length) * d.sz) := by
    rw [← ht, hxn, List.drop_take]
  have e3 : (o + ys.length) * d.sz = o * d.sz + seg.length := by rw [hsl, Nat.add_mul]
  have e4 : N * d.sz - (o + ys.length) * d.sz = n * d.sz - (o + ys.length) * d.sz := by
    rcases Nat.le_total n (o + ys.length) with hle | hle
    · have : N = o + ys.length := by omega
      rw [this]
      have := Nat.mul_le_mul_right d.sz hle
      omega
    · have : N = n := by omega
      rw [this]
  have e5 : (o + ys.length) * d.sz ≤ N * d.sz := Nat.mul_le_mul_right _ (by omega)
  refine ⟨⟨fun k hk => hok k (by rw [← hk]; simp [Value.ownBlock]), inner.take (o * d.sz) ++ seg ++ inner.drop ((o + ys.length) * d.sz), ⟨?_, .inr ⟨g, cap, cur', by rw [hlen], hb, h3, by rw [hlen]; omega, hcm, by rw [h4, hcs], ?_⟩⟩, ?_⟩, ⟨s1, s2, s3, by rw [s4]; exact Nat.le_refl _, fun k _ hk => hfar k (fun he => hk (by rw [he]))⟩⟩
  · rw [hlen]
    simp only [List.length_append, List.length_take, List.length_drop, hin, hsl, Nat.min_eq_left hon]
    rw [← Nat.add_mul]
    omega
  · rw [hlen, h5, e1, e2, e3, List.append_assoc, List.append_assoc, List.take_append, List.take_append]
    have l1 : (cur.toList.take (o * d.sz)).length = o * d.sz := by rw [List.length_take, hcl]; omega
    rw [l1, List.take_of_length_le (by rw [l1]; omega), List.take_of_length_le (l := seg) (by omega)]
    congr 3
    omega
  · refine Kd.reps_append (Kd.reps_append ((Kd.reps_take hr (by omega)).imp_ ?_) (hys.imp_ ?_)) ((Kd.reps_drop hr).imp_ ?_)
    · exact fun p q hp => d.M_mono (fun k hk => ⟨hk.1, by rw [← hgo N, hgo n]; exact hk.2⟩) (d.M_move (fun k hk => hfar k (fun he => hk.2 (by rw [he]; exact hgo n))) hp)
    · exact fun p q hp => d.M_mono (fun k hk => ⟨(hokp k hk).1, fun he => (hokp k hk).2 (by rw [← hgo N] at he; injection he)⟩) (d.M_move (fun k hk => hfar k (hokp k hk).2) hp)
    · exact fun p q hp => d.M_mono (fun k hk => ⟨hk.1, by rw [← hgo N, hgo n]; exact hk.2⟩) (d.M_move (fun k hk => hfar k (fun he => hk.2 (by rw [he]; exact hgo n))) hp)

/-- copy, all read before anything is written. -/
theorem run_copy_sized {P : Program} (w : World) (dT sT ty elem : TypeId) (size b o dLen dCap : Nat) (a : Addr) (sLen sCap : Nat) (cs : List Value)
    (hu : P.underlying dT = some (.slice elem)) (hs : (P.info? elem).map (·.size) = some size) (hn : cs.length = Nat.min sLen dLen * size)
    (hsrc : ∀ j v, cs[j]? = some v → w.cell? (a.add j) = some v) (hc : ∀ j, j < cs.length → (w.cell? ⟨b, o + j, none⟩).isSome = true) (hf : ∀ j, j < cs.length → w.frozen? ⟨b, o + j, none⟩ = false) (h1 : ∀ v ∈ cs, v.oneCell' = true) :
    (Builtin.copy_ #[dT, sT] ty #[.slice (some ⟨b, o, none⟩) dLen dCap, .slice (some a) sLen sCap]).run P w = .ok (goInt (Nat.min sLen dLen)) (w.setCells b o cs) := by
  have hl := run_loadCells_list (P := P) w a cs hsrc
  have hst := run_storeCells_cells (P := P) b o cs 0 w (by simpa using hc) (by simpa using hf) h1
  cases hq : P.info? elem with
  | none => simp [hq] at hs
  | some i =>
    have hi : i.size = size := by simpa [hq] using hs
    simp [Builtin.copy_, run_underlying hu, Builtin.lenOf, Builtin.firstCells, sizeOf, typeInfo, hq, hi, ← hn, hl, hst]
/-- copy as one step of a region that draws. -/
theorem copy_step {P : Program} {ops : Array Oper} {o : Oper} {a : Act} {Q : Exit → Act → World → Prop} {Kc : Act → World → Prop} {W w1 : World} (hw : Region.wanted o (yielded ops a.tmps) = true) (s x : Operand) (t t' : TypeId)
    (ho : o.op = .call { callee := .builtin .copy, args := #[s, x], argTypes := #[t, t'] }) (vs vx v : Value) (hs : a.eval s = vs) (hx : a.eval x = vx) (hrun : (Builtin.copy_ #[t, t'] o.type #[vs, vx]).run P W = .ok v w1) (h : Kc (a.put o.dst v) w1) :
    if Region.wanted o (yielded ops a.tmps) = true then Oper.wp P o a W Kc Q else Kc (a.put o.dst undef) W := by
  refine event_step hw ?_ h
  unfold execOp
  simp only [ho, resolve, invoke, builtin, Sem.run_bind, Sem.run_pure, Result.andThen_ok, List.map_toArray, List.map_cons, List.map_nil, hs, hx, hrun]
end Go.Proofs.Ytelhjfalkhmhkaa.H
