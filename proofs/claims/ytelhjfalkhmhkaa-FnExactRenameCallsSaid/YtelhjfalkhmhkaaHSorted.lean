/- slices.Sorted(slices.Values(s)) at ints: a new row of one's own with the same elements in order. -/
import Derived.Test.YtelhjfalkhmhkaaHValues
import Derived.Test.YtelhjfalkhmhkaaHSort
import Derived.Shelf.SortM.Plain
import Derived.Shelf.SortM.SortNone
import Derived.Lib.SlKeysI
namespace Go.Proofs.Ytelhjfalkhmhkaa.H
open Go Go.Proofs Go.RowKit Go.Shelf Go.Sort Go.Proofs.YtelhjfalkhmhkaaW.PrintWords Go.Proofs.YtelhjfalkhmhkaaW.PrintLast Go.Proofs.YtelhjfalkhmhkaaW.PrintMore
/-- The elements in order. -/
def sortedI (l : List Int) : List Int := l.mergeSort fun x y => decide (x ≤ y)
theorem sortedI_length (l : List Int) : (sortedI l).length = l.length := List.length_mergeSort _
theorem values_c (a : Option Addr) (len cap : Nat) (w : World) :
    Calls Try.prog 116 #[.slice a len cap] w fun e w' => e = .returned (.func (.func 128) #[] #[.pointer (some ⟨w.heap.size, 0, none⟩)]) ∧ w' = w.alloc (.cells #[.slice a len cap] 53) :=
  callsIn_wide.1 (values_in Fence.wide 3 trivial rfl a len cap w)
set_option maxRecDepth 100000 in
set_option maxHeartbeats 1000000 in
theorem sorted_c (A : Option Addr) (c : Nat) (xs : List Int) (hlen : xs.length ≤ 1048576) (w : World) (hC : Kd.C (Kd.int .i64) w A xs.length xs) :
    Calls Try.prog 115 #[.func (.func 128) #[] #[.pointer (some ⟨w.heap.size, 0, none⟩)]] (w.alloc (.cells #[.slice A xs.length c] 53)) fun e w' => ∃ v, e = .returned v ∧ Kd.R (Kd.int .i64) 3 w' w.heap.size (fun _ => True) v (sortedI xs) ∧ Below w.heap.size w w' := by
  obtain ⟨W1, hW1⟩ : ∃ W1, W1 = w.alloc (.cells #[.slice A xs.length c] 53) := ⟨_, rfl⟩
  have hB1 : Below w.heap.size w W1 := by rw [hW1]; exact (Below.refl _ w).alloc (Nat.le_refl _) _
  have hs1 : w.heap.size < W1.heap.size := by rw [hW1]; simp
  have hc1 : W1.cell? ⟨w.heap.size, 0, none⟩ = some (.slice A xs.length c) := by rw [hW1]; exact (blk_cell (blk_new w (.cells #[.slice A xs.length c] 53)) 0).trans rfl
  have cC := callsIn_wide.1 (collect_c 4 (Nat.le_refl _) w.heap.size A c xs hlen w W1 hC hB1 hs1 hc1)
  rw [← hW1]
  have HC := Aside0.mk cC
  have HB1 := Aside0.mk hB1
  clear hW1 hc1 hC cC hB1
  go_enter Try.func115, Try.ntmps115
  go_wp2_with (go_at_call 126; refine HC.out.mono ?_; rintro e w2 ⟨v, rfl, ho, hb⟩; have HO := Aside0.mk ho; have HB2 := Aside0.mk hb; clear ho hb)
  rcases HO.out.2 with ⟨rfl, hz⟩ | ⟨g, cap, cur, rfl, hbase, hgb, r1, r2, r3, r4⟩
  · have hx : xs = [] := List.eq_nil_of_length_eq_zero hz
    subst hx
    have cN := AnyM.slices_Sort_int_none Try.sortA none 0 w2
    change Calls Try.prog 127 _ _ _ at cN
    go_wp2_with (go_at_call 127; refine cN.mono ?_; rintro e w3 ⟨rfl, rfl⟩)
    go_ret
    refine ⟨_, rfl, ?_, HB1.out.trans (HB2.out.mono HB1.out.size)⟩
    rw [show sortedI [] = [] by simp [sortedI]]
    exact Kd.R_nil _ _ _ _ _
  · have hH : Holds encZ w2 g 0 xs.toArray := holds_of_block_i hgb (by simpa using r4)
    have hgl : g < w2.heap.size := (Array.getElem?_eq_some_iff.1 hgb).1
    have cS := AnyM.slices_Sort_int Try.sortA g 0 cap xs w2 hH hgl (by omega)
    change Calls Try.prog 127 _ _ _ at cS
    go_wp2_with (go_at_call 127; refine cS.mono ?_; rintro e w3 ⟨rfl, nn, os, rfl⟩)
    go_ret
    have hrow := ownsRow_sorted_i (n := nn) (os := os) (ts := sortedI xs) (sortedI_length xs) hbase hgb r1 r2 r3
    have hB3 := HB2.out.grown (grownBy_sorted_i (w := w2) (g := g) (n := nn) (os := os) (sortedI xs).toArray) HB2.out.size (fun j hj => by cases hj; exact hbase)
    have hR : Kd.R (Kd.int .i64) 3 (grow (putRow encZ (Sort.ahead w2 nn) g 0 (sortedI xs).toArray) os) W1.heap.size (fun _ => True) (.slice (some ⟨g, 0, none⟩) xs.length cap) (sortedI xs) :=
      ⟨fun _ _ => trivial, (sortedI xs).map (Value.int .i64), by rw [sortedI_length]; exact hrow, Kd.reps_scalar _⟩
    exact ⟨_, rfl, Kd.R_lower hR HB1.out.size, HB1.out.trans (hB3.mono HB1.out.size)⟩
end Go.Proofs.Ytelhjfalkhmhkaa.H
