/- The contract of impl.indices: for every predicate that leaves what lay in memory unturned, the numbers below n of which it holds, in new memory. -/
import Derived.Test.YtelhjfalkhmhkaaHBase
namespace Go.Proofs.Ytelhjfalkhmhkaa.H
open Go.RowKit Go.Proofs.YtelhjfalkhmhkaaW.PrintWords Go.Proofs.YtelhjfalkhmhkaaW.PrintLast Go.Proofs.YtelhjfalkhmhkaaW.PrintMore

def idxs (p : Nat → Bool) (k : Nat) : List Int := ((List.range k).filter p).map Int.ofNat
theorem idxs_t {p : Nat → Bool} {k : Nat} (h : p k = true) : idxs p (k + 1) = idxs p k ++ [(k : Int)] := by
  unfold idxs
  rw [List.range_succ, List.filter_append, List.map_append, List.filter_cons, if_pos h]
  rfl
theorem idxs_f {p : Nat → Bool} {k : Nat} (h : p k = false) : idxs p (k + 1) = idxs p k := by
  unfold idxs
  rw [List.range_succ, List.filter_append, List.map_append, List.filter_cons, if_neg (by rw [h]; exact Bool.false_ne_true)]
  simp
theorem idxs_len (p : Nat → Bool) (k : Nat) : (idxs p k).length ≤ k := by
  have := List.length_filter_le p (List.range k)
  simpa [idxs] using this

theorem idxs_congr {p q : Nat → Bool} : ∀ (k : Nat), (∀ i, i < k → p i = q i) → idxs p k = idxs q k
  | 0, _ => rfl
  | k + 1, h => by
    have ih := idxs_congr k (fun i hi => h i (by omega))
    cases hq : q k with
    | true => rw [idxs_t hq, idxs_t ((h k (by omega)).trans hq), ih]
    | false => rw [idxs_f hq, idxs_f ((h k (by omega)).trans hq), ih]
/-- The same over a predicate with rounds. -/
def idxO (g : Nat → Option Bool) (m : Nat) : Option (List Int) := if m ≤ 1048576 ∧ ∀ i, i < m → (g i).isSome = true then some (idxs (fun i => g i == some true) m) else none
theorem idxO_mono {g g' : Nat → Option Bool} {m : Nat} (h : ∀ i, LeO (g i) (g' i)) : LeO (idxO g m) (idxO g' m) := by
  intro r hr
  unfold idxO at hr ⊢
  by_cases hx : m ≤ 1048576 ∧ ∀ i, i < m → (g i).isSome = true
  case neg => rw [if_neg hx] at hr; cases hr
  rw [if_pos hx] at hr
  have e : ∀ i, i < m → g' i = g i := fun i hi => by
    obtain ⟨b, hb⟩ := Option.isSome_iff_exists.1 (hx.2 i hi)
    rw [hb]; exact h i b hb
  rw [if_pos ⟨hx.1, fun i hi => by rw [e i hi]; exact hx.2 i hi⟩, ← hr]
  exact congrArg some (idxs_congr m (fun i hi => by rw [e i hi]))
theorem idxO_some {g : Nat → Option Bool} {m : Nat} {p : Nat → Bool} (hm : m ≤ 1048576) (h : ∀ i, i < m → g i = some (p i)) : idxO g m = some (idxs p m) := by
  unfold idxO
  rw [if_pos ⟨hm, fun i hi => by rw [h i hi]; rfl⟩]
  refine congrArg some (idxs_congr m (fun i hi => ?_))
  rw [h i hi]; cases p i <;> rfl
theorem idxO_inv {g : Nat → Option Bool} {m : Nat} {r : List Int} (h : idxO g m = some r) : m ≤ 1048576 ∧ (∀ i, i < m → ∃ b, g i = some b) ∧ r = idxs (fun i => g i == some true) m := by
  unfold idxO at h
  by_cases hx : m ≤ 1048576 ∧ ∀ i, i < m → (g i).isSome = true
  case neg => rw [if_neg hx] at h; cases h
  rw [if_pos hx] at h
  exact ⟨hx.1, fun i hi => Option.isSome_iff_exists.1 (hx.2 i hi), (Option.some.inj h).symm⟩

/-- What is asked of the predicate. -/
def PredIdx (g : Nat) (lb : Array Value) (n : Nat) (p : Nat → Bool) (w : World) : Prop :=
  ∀ (W : World) (k : Nat), Below w.heap.size w W → k < n → Calls Try.prog g (#[.int .i64 (k : Int)] ++ lb) W fun e w' => e = .returned (.bool (p k)) ∧ Below W.heap.size W w'
def IdxsPost (l : List Int) (w : World) (e : Ending) (w' : World) : Prop := ∃ v : Value, e = .returned v ∧ Kd.R (Kd.int .i64) 3 w' w.heap.size (fun _ => True) v l ∧ Below w.heap.size w w'
theorem info3 : (Try.prog.info? 3).map (fun i => (i.zero, i.size, i.bytes)) = some (some (.int .i64 0), 1, 8) := by kernel_rfl

set_option maxHeartbeats 2000000 in
set_option maxRecDepth 100000 in
theorem indices_c (n : Nat) (hn : n ≤ 1048576) (p : Nat → Bool) (g : Nat) (lb : Array Value) (eg : ∀ args w, (callFunc g args).run Try.prog w = .ok (.enter g args) w) (w : World) (hp : PredIdx g lb n p w) :
    Calls Try.prog 79 #[.int .i64 (n : Int), .func (.func g) #[] lb] w (IdxsPost (idxs p n) w) := by
  have HB := Aside0.mk (Below.refl w.heap.size w)
  go_enter Try.func79, Try.ntmps79
  go_wp2_with (first | ((with_reducible refine gate_dst (N := 7) rfl ?_); refine Kd.R_lit (Kd.int .i64) _ 3 ?hg (N := 7) ?hd (xs := ([] : List Int)) (inner := []) (ok := fun _ => True) (okp := fun _ => True) ?hr ?hp (fun _ hk => hk) trivial (Below.refl _ _) (Nat.le_refl _) (by simp) ?_; (case hd => rfl); (case hg => rfl); (case hr => first | (go_simp; done) | (go_simp; rfl)); (case hp => exact (Reps.none _ _)); intro v7 w7 ho hb hg_ hnew_; clear hg_ hnew_; have HO := Aside0.mk ho; have HB7 := Aside0.mk hb; clear ho hb))
  go_loopg [5, 6, 9] n (fun gg s5 _ s9 wr => ∃ kk : Nat, kk ≤ n ∧ n - kk ≤ gg ∧ s9 = .int .i64 (kk : Int) ∧ Aside0 (Kd.R (Kd.int .i64) 3 wr w.heap.size (fun _ => True) s5 (idxs p kk)) ∧ Aside0 (Below w.heap.size w wr))
  case atStart => exact ⟨0, Nat.zero_le _, by omega, rfl, ⟨HO.out⟩, ⟨HB7.out⟩⟩
  case round =>
    obtain ⟨kk, hkk, hg, rfl, HO, BW⟩ := hrel
    by_cases hlt : kk < n
    · have hltz : (kk : Int) < (n : Int) := by omega
      have hcall := hp wr kk BW.out hlt
      have hlen := idxs_len p kk
      cases hq : p kk with
      | true =>
        rw [hq] at hcall
        have HQ := Aside0.mk hq
        clear hq
        go_wp2_with (first | (go_at_fn g; refine hcall.mono ?_; rintro e w1 ⟨rfl, hb'⟩; have HO1 := Aside0.mk (Kd.R_below HO.out hb'); have HB1 := Aside0.mk (below_step BW.out hb'); clear hb') | ((with_reducible refine gate_builtin (b := .append) (xs := #[.tmp 15, .tmp 17]) rfl ?_); at_builtin; refine Kd.R_append (Kd.int .i64) (w0 := w) w.heap.size rfl (.tmp 15) (.tmp 17) 53 3 (.int .i64 0) 8 rfl Try.underlying53 info3 rfl (by decide) (by omega) u5 (idxs p kk) (kk : Int) [.int .i64 (kk : Int)] (fun _ => True) (fun _ => False) rfl rfl ?aP (fun _ hk => hk.elim) ?aF ?aO ?aB ?aS ?aL ?_; (case aP => exact rfl); (case aB => exact HB1.out); (case aF => exact (fun _ _ => trivial)); (case aO => exact HO1.out); (case aS => exact (below_size HB1.out)); (case aL => omega); intro v5 w9 ho hb hg_ hat; rw [← idxs_t HQ.out] at ho; have HO2 := Aside0.mk ho; have HB2 := Aside0.mk hb; clear ho hb hg_ hat))
        go_roundg (gk - 1)
        case measure => omega
        case rel => exact ⟨kk + 1, by omega, by omega, by go_num, ⟨HO2.out⟩, ⟨HB2.out⟩⟩
      | false =>
        rw [hq] at hcall
        have HQ := Aside0.mk hq
        clear hq
        go_wp2_with (go_at_fn g; refine hcall.mono ?_; rintro e w1 ⟨rfl, hb'⟩; have HO1 := Aside0.mk (Kd.R_below HO.out hb'); have HB1 := Aside0.mk (below_step BW.out hb'); clear hb')
        go_roundg (gk - 1)
        case measure => omega
        case rel => exact ⟨kk + 1, by omega, by omega, by go_num, ⟨by rw [idxs_f HQ.out]; exact HO1.out⟩, ⟨HB1.out⟩⟩
    · have : kk = n := by omega
      subst this
      go_wp2
      go_ret
      exact ⟨_, rfl, HO.out, BW.out⟩
end Go.Proofs.Ytelhjfalkhmhkaa.H
