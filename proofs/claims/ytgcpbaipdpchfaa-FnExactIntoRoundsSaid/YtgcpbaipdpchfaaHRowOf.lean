/- A row of rows of one's own: one row lent, turned, put back. No condition: plain lemmas. -/
import Derived.Test.YtgcpbaipdpchfaaHCloneS
import Derived.Test.YtgcpbaipdpchfaaWShare
import Derived.Test.YtgcpbaipdpchfaaWKept
namespace Go.Proofs.Ytgcpbaipdpchfaa.H
open Go Go.RowKit Go.Proofs.YtgcpbaipdpchfaaW.PrintWords Go.Proofs.YtgcpbaipdpchfaaW.PrintLast Go.Proofs.YtgcpbaipdpchfaaW.PrintMore
section
variable {α : Type} {d : Kd α} {e e2 base g n cap : Nat} {W : World} {ok : Nat → Prop} {xs : List (List α)}
theorem same_cell {w w1 : World} {k : Nat} (h : w1.heap[k]? = w.heap[k]?) (o : Nat) : w1.cell? ⟨k, o, none⟩ = w.cell? ⟨k, o, none⟩ ∧ w1.frozen? ⟨k, o, none⟩ = w.frozen? ⟨k, o, none⟩ := by
  unfold World.cell? World.frozen?
  simp only [h]
  exact ⟨trivial, trivial⟩
/-- Row i, lent: its value, its blocks; behind an append to it and the store of the new value into its place, and behind a turn in place. -/
theorem S_row (h : Kd.S (Kd.slice e d) e2 W base ok (.slice (some ⟨g, 0, none⟩) n cap) xs) (i : Int) (h0 : 0 ≤ i) (h1 : i < n) (hf : ∀ k, W.heap.size ≤ k → ok k) :
    ∃ (v : Value) (oki : Nat → Prop), W.cell? ⟨g, i.toNat, none⟩ = some v ∧ W.frozen? ⟨g, i.toNat, none⟩ = false ∧ d.R e W base oki v (xs.getD i.toNat []) ∧ (∀ k, oki k → ok k ∧ k ≠ g) ∧
      (∀ (v1 : Value) (w1 : World) (row' : List α), d.R e w1 base (fun k => oki k ∨ W.heap.size ≤ k) v1 row' → W.grownBy w1 v.ownBlock → w1.cell? ⟨g, i.toNat, none⟩ = some v ∧ w1.frozen? ⟨g, i.toNat, none⟩ = false ∧ Kd.S (Kd.slice e d) e2 (w1.setCell ⟨g, i.toNat, none⟩ v1) base ok (.slice (some ⟨g, 0, none⟩) n cap) (xs.set i.toNat row')) ∧
      (∀ (w1 : World) (row' : List α), d.R e w1 base (fun k => oki k ∨ W.heap.size ≤ k) v row' → Kept W w1 oki → Kd.S (Kd.slice e d) e2 w1 base ok (.slice (some ⟨g, 0, none⟩) n cap) (xs.set i.toNat row')) := by
  obtain ⟨oki, c, hcl, hM, hcc, hfr, hoki, hH⟩ := Kd.S_elem h [] i h0 h1
  obtain ⟨v, rfl, hR⟩ := hM
  have hc0 : W.cell? ⟨g, i.toNat, none⟩ = some v := by
    have := hcc 0 v rfl
    simpa [Kd.slice] using this
  have hf0 : W.frozen? ⟨g, i.toNat, none⟩ = false := by
    have := hfr 0
    simpa [Kd.slice] using this
  have hg : g < W.heap.size := World.block_lt_of_cell? W _ hc0
  refine ⟨v, oki, hc0, hf0, hR, hoki, fun v1 w1 row' hR1 hgr => ?_, fun w1 row' hR1 hk => ?_⟩
  · have hgb : w1.heap[g]? = W.heap[g]? := hgr.block g hg (fun he => (hoki g (hR.1 g he.symm)).2 rfl)
    have hH1 := Kd.H_grown (Kd.H_widen hH) hgr (fun k hk => .inl (hR.1 k hk))
    have hone : v1.oneCell' = true := (Kd.R_val hR1).2
    obtain ⟨hs, _⟩ := Kd.H_seg hH1 h0 h1 (seg := [v1]) (j := 0) (by simp [Kd.slice]) (fun q hq => by rw [List.mem_singleton.1 hq]; exact hone)
    have hw : w1.setCells g (i.toNat * (Kd.slice e d).sz + 0) [v1] = w1.setCell ⟨g, i.toNat, none⟩ v1 := by
      show w1.setCell ⟨g, i.toNat * 1 + 0, none⟩ v1 = _
      rw [Nat.mul_one, Nat.add_zero]
    rw [hw] at hs
    refine ⟨(same_cell hgb _).1.trans hc0, (same_cell hgb _).2.trans hf0, Kd.H_back hs (okp := fun k => oki k ∨ W.heap.size ≤ k) ⟨v1, rfl, Kd.R_far hR1 (p := ⟨g, i.toNat, none⟩) (fun k hk => ?_) v1⟩ (fun k hk => hk.imp id (fun h => ⟨hf k h, h⟩))⟩
    rcases hk with hk | hk
    · exact (hoki k hk).2
    · show k ≠ g
      omega
  · have hH1 := Kd.H_kept (Kd.H_widen hH) hk (fun k _ hn ho => hn (.inl ho))
    exact Kd.H_back hH1 (okp := fun k => oki k ∨ W.heap.size ≤ k) ⟨v, rfl, hR1⟩ (fun k hk => hk.imp id (fun h => ⟨hf k h, h⟩))
end
end Go.Proofs.Ytgcpbaipdpchfaa.H
