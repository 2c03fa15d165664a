/- The contract of slices.Backward at letters, as a sequence: all pairs of an index and its element, from the last one on. -/
import Derived.RangeFuncNested
import Derived.RangeFuncBound
import Derived.RangeFuncCalls
import Derived.RangeFuncLeaves
import Derived.RangeFuncBox
import Derived.Shelf.Abstract
import Derived.Shelf.RegionOpen
import Derived.OwnWalkIn
import Derived.TacticsInMore
import Derived.LoopNIn
import Derived.LoopIn
import Derived.Maps.AppendAt
import Derived.Test.YtelhjfalkhmhkaaHBase
namespace Go.Proofs.Ytelhjfalkhmhkaa.H
open Go Go.Proofs Go.RowKit Go.Shelf Go.Proofs.YtelhjfalkhmhkaaW.PrintWords Go.Proofs.YtelhjfalkhmhkaaW.PrintLast Go.Proofs.YtelhjfalkhmhkaaW.PrintMore
attribute [local go_sem] Oper.semAt_some
section
variable {α : Type} [Inhabited α] {d : Kd α} {fa fb : α → Int}
/-- The first k pairs, from the last element on. -/
def backP (l : List α) (k : Nat) : List (Int × α) := (List.range k).map fun j : Nat => ((l.length : Int) - 1 - (j : Int), l.getD (l.length - 1 - j) default)
theorem backP_succ (l : List α) (k : Nat) : backP l (k + 1) = backP l k ++ [((l.length : Int) - 1 - (k : Int), l.getD (l.length - 1 - k) default)] := by
  simp [backP, List.range_succ]
theorem backP_length (l : List α) (k : Nat) : (backP l k).length = k := by simp [backP]
/-- What a round keeps: what lay below, and the boxed slice. -/
def KpB (n₀ Bs : Nat) (W W' : World) : Prop := Below n₀ W W' ∧ ∀ v, W.cell? ⟨Bs, 0, none⟩ = some v → W'.cell? ⟨Bs, 0, none⟩ = some v
theorem kpB_t {n₀ Bs : Nat} {A B C : World} (h : KpB n₀ Bs A B) (k : KpB n₀ Bs B C) : KpB n₀ Bs A C := ⟨h.1.trans k.1, fun v hv => k.2 v (h.2 v hv)⟩
theorem kpB_b {n₀ Bs : Nat} {w : World} (hn : n₀ ≤ w.heap.size) (W : World) (l : Nat) (o o' : Obj) (hl : w.heap.size ≤ l) (h : W.heap[l]? = some o) (hc : o.isCells = false) (hw : o.isWalk = false) : KpB n₀ Bs W (W.putObj l o') :=
  ⟨belowK_b hn W l o o' hl h hc hw, fun v hv => cell_kept hv (grownBy_putObj' _ l o') (fun r e => by cases e; exact ⟨_, h, hc⟩)⟩
set_option maxRecDepth 100000 in
set_option maxHeartbeats 2000000 in
theorem back1_in (hs : d.sz = 2) (ho : ∀ w x cs, d.K w x cs → cs = [.int .i64 (fa x), .int .i64 (fb x)]) (F : Fence) (n : Nat) (hF : F.fn 106) (hro : F.round = none) (hn : 1 ≤ n) (l Bs n₀ : Nat) (A : Option Addr) (c : Nat) (xs : List α) (J Jx : List (Int × α) → World → Prop)
    (hY : ∀ pre x W, J pre W → pre.length < xs.length → YieldAt F (n - 1) Try.prog l #[.int .i64 x.1, .agg #[.int .i64 (fa x.2), .int .i64 (fb x.2)]] W fun e W' =>
      (e = .returned (.bool true) ∧ J (pre ++ [x]) W' ∧ KpB n₀ Bs W W') ∨ (e = .returned (.bool false) ∧ Jx (pre ++ [x]) W'))
    (W0 W : World) (hC : Kd.C d W0 A xs.length xs) (hb0 : ∀ W', KpB n₀ Bs W W' → Below W0.heap.size W0 W') (hBs : W.cell? ⟨Bs, 0, none⟩ = some (.slice A xs.length c)) (h0 : J [] W) :
    CallsIn F n Try.prog 106 #[.func (.yield l) #[] #[], .pointer (some ⟨Bs, 0, none⟩)] W fun e W' => (∃ v, e = .returned v) ∧
      ((∃ ys, ys = backP xs xs.length ∧ J ys W') ∨ (∃ pre, (∃ k, pre = backP xs k) ∧ Jx pre W')) := by
  have hmax : (xs.length : Int) ≤ 9223372036854775807 := by have := Kd.C_max hC; omega
  have hw0 : wrap64 ((xs.length : Int) - 1) = (xs.length : Int) - 1 := by unfold wrap64; omega
  refine callsIn_of_wp Try.func106 rfl hF ?_ hro
  simp only [Try.ntmps106, List.size_toArray, List.length_cons, List.length_nil, Nat.reduceAdd, Nat.reduceSub, Array.replicate_succ, Array.replicate_zero, List.push_toArray, List.append_toArray, List.nil_append, List.cons_append]
  gi_wp2
  gi_loopw [3] (fun i wr => ∃ k : Nat, k ≤ xs.length ∧ i = .int .i64 ((xs.length : Int) - 1 - k) ∧ J (backP xs k) wr ∧ KpB n₀ Bs W wr)
    (fun i _ => (intOf i + 1).toNat)
  case atStart => exact ⟨0, Nat.zero_le _, by simp, h0, ⟨Below.refl _ _, fun _ h => h⟩⟩
  case round =>
    obtain ⟨k, hk, rfl, hJs, hnx⟩ := hrel
    have hbx := hnx.2 _ hBs
    by_cases hlt : k < xs.length
    · have hC' := Kd.C_below hC (hb0 _ hnx)
      have h1 : (0 : Int) ≤ (xs.length : Int) - 1 - k := by omega
      have h2 : (xs.length : Int) - 1 - k < (xs.length : Int) := by omega
      have hnn : ((xs.length : Int) - 1 - k).toNat = xs.length - 1 - k := by omega
      obtain ⟨ad, rfl, c0, c1⟩ := at_pair hs ho hC' _ h1 h2
      obtain ⟨fn, tmps, assign, body, hy, hR⟩ := hY _ ((xs.length : Int) - 1 - (k : Int), xs.getD (xs.length - 1 - k) default) wr hJs (by rw [backP_length]; exact hlt)
      dsimp only at hy hR
      rw [hnn] at c0 c1
      generalize hxx : xs.getD (xs.length - 1 - k) default = x at c0 c1 hy hR
      gi_wp2
      refine hR.mono ?_
      rintro e W3 (⟨rfl, hJ3, hk3⟩ | ⟨rfl, hJx3⟩)
      · gi_wp2
        go_roundw
        case rel => exact ⟨k + 1, by omega, by go_num, by rw [backP_succ, hxx]; exact hJ3, kpB_t hnx hk3⟩
        case measure => simp [intOf]; omega
      · gi_wp2
        refine bodyPost_ret (results_none rfl _ _ _) rfl ?_
        exact ⟨⟨_, rfl⟩, .inr ⟨_, ⟨k + 1, by rw [backP_succ, hxx]⟩, hJx3⟩⟩
    · obtain rfl : k = xs.length := by omega
      gi_wp2
      go_end0
      exact ⟨⟨_, rfl⟩, .inl ⟨_, rfl, hJs⟩⟩
set_option maxRecDepth 100000 in
set_option maxHeartbeats 1000000 in
/-- The maker: the slice is boxed; the function value captures the box. -/
theorem backward_in (F : Fence) (n : Nat) (hF : F.fn 68) (hro : F.round = none) (a : Option Addr) (len cap : Nat) (w : World) :
    CallsIn F n Try.prog 68 #[.slice a len cap] w fun e w' => e = .returned (.func (.func 106) #[] #[.pointer (some ⟨w.heap.size, 0, none⟩)]) ∧ w' = w.alloc (.cells #[.slice a len cap] 41) := by
  refine callsIn_of_wp Try.func68 rfl hF ?_ hro
  simp only [Try.ntmps68, List.size_toArray, List.length_cons, List.length_nil, Nat.reduceAdd, Nat.reduceSub, Array.replicate_succ, Array.replicate_zero, List.push_toArray, List.append_toArray, List.nil_append, List.cons_append]
  gi_wp2
  go_ret
  exact ⟨rfl, rfl⟩
theorem back_stops (hs : d.sz = 2) (ho : ∀ w x cs, d.K w x cs → cs = [.int .i64 (fa x), .int .i64 (fb x)]) (F : Fence) (n : Nat) (hF : F.fn 106) (hro : F.round = none) (hn : 1 ≤ n) (Bs : Nat) (A : Option Addr) (c : Nat) (xs : List α) (W0 w : World)
    (hC : Kd.C d W0 A xs.length xs) (hB0 : Below W0.heap.size W0 w) (hBs : Bs < w.heap.size) (hc : w.cell? ⟨Bs, 0, none⟩ = some (.slice A xs.length c)) :
    SeqStopsK F n Try.prog 106 #[.pointer (some ⟨Bs, 0, none⟩)] (fun x : Int × α => #[Value.int .i64 x.1, .agg #[.int .i64 (fa x.2), .int .i64 (fb x.2)]]) (KpB W0.heap.size Bs) (fun ys => ys = backP xs xs.length) (fun pre => ∃ k, pre = backP xs k) xs.length w := fun l J Jx W hW _ _ hY h0 =>
  back1_in hs ho F n hF hro hn l Bs W0.heap.size A c xs J Jx hY W0 W hC (fun _ hk => (hB0.trans (hW.mono hB0.size)).trans hk.1) ((hW.cell (p := ⟨Bs, 0, none⟩) hBs).trans hc) h0
end
end Go.Proofs.Ytelhjfalkhmhkaa.H
