/- The frame of a literal that turns one captured variable (block g) and the row u that it holds: all else stays. No condition: plain lemmas. -/
import Derived.Test.YtgcpbaipdpchfaaHCloneS
import Derived.Test.YtgcpbaipdpchfaaWShare
namespace Go.Proofs.Ytgcpbaipdpchfaa.H
open Go Go.RowKit Go.Proofs.YtgcpbaipdpchfaaW.PrintWords Go.Proofs.YtgcpbaipdpchfaaW.PrintLast Go.Proofs.YtgcpbaipdpchfaaW.PrintMore
structure Fr (g : Nat) (u : Value) (w W : World) : Prop where
  os : W.os = w.os
  tape : W.tape = w.tape
  output : W.output = w.output
  size : w.heap.size ≤ W.heap.size
  block : ∀ k, k < w.heap.size → k ≠ g → u.ownBlock ≠ some k → W.heap[k]? = w.heap[k]?
theorem Fr.refl (g : Nat) (u : Value) (w : World) : Fr g u w w := ⟨rfl, rfl, rfl, Nat.le_refl _, fun _ _ _ _ => rfl⟩
theorem Fr.of_below {g : Nat} {u : Value} {w W : World} (h : Below w.heap.size w W) : Fr g u w W := ⟨h.os, h.tape, h.output, h.size, fun k hk _ _ => h.block k hk⟩
/-- The row u1 that the variable holds in between is u's own, or laid since. -/
theorem Fr.trans {g : Nat} {u u1 : Value} {w W1 W2 : World} (h : Fr g u w W1) (hu : u1.ownBlock = u.ownBlock ∨ ∃ b, u1.ownBlock = some b ∧ w.heap.size ≤ b) (h2 : Fr g u1 W1 W2) : Fr g u w W2 := by
  refine ⟨h2.os.trans h.os, h2.tape.trans h.tape, h2.output.trans h.output, Nat.le_trans h.size h2.size, fun k hk hg hn => ?_⟩
  refine (h2.block k (Nat.lt_of_lt_of_le hk h.size) hg ?_).trans (h.block k hk hg hn)
  rcases hu with he | ⟨b, he, hb⟩
  · rw [he]; exact hn
  · rw [he]
    intro h9
    injection h9 with h9
    omega
/-- Behind the append to the row u and the store into g. -/
theorem Fr.of_append {g : Nat} {u v1 : Value} {w w1 : World} (hg : w.grownBy w1 u.ownBlock) : Fr g u w (w1.setCell ⟨g, 0, none⟩ v1) := by
  have hb : ∀ k, k ≠ g → (w1.setCell ⟨g, 0, none⟩ v1).heap[k]? = w1.heap[k]? := fun k hk => Below.heap_setCell w1 ⟨g, 0, none⟩ v1 k hk
  obtain ⟨s1, s2, s3, s4⟩ := setCells_same g [v1] 0 w1
  exact ⟨s1.trans hg.os, s2.trans hg.tape, s3.trans hg.output, Nat.le_trans hg.size (by rw [← s4]; exact Nat.le_refl _), fun k hk hkg hn => (hb k hkg).trans (hg.block k hk (fun e => hn e.symm))⟩
theorem Fr.F {α : Type} {d : Kd α} {g n : Nat} {u : Value} {w W : World} {ok : Nat → Prop} {A : Option Addr} {xs : List α} (h : Fr g u w W) (hF : Kd.F d w ok A n xs) (hok : ∀ k, ok k → k ≠ g ∧ u.ownBlock ≠ some k) : Kd.F d W ok A n xs :=
  Kd.F_step hF (fun k hk hlt => h.block k hlt (hok k hk).1 (hok k hk).2)
theorem Fr.cell {g : Nat} {u : Value} {w W : World} {p : Addr} {x : Value} (h : Fr g u w W) (hc : w.cell? p = some x) (h1 : p.block ≠ g) (h2 : u.ownBlock ≠ some p.block) : W.cell? p = some x := by
  have hlt : p.block < w.heap.size := World.block_lt_of_cell? w p hc
  have := h.block p.block hlt h1 h2
  rw [← hc]
  unfold World.cell?
  rw [this]
theorem Fr.S {α : Type} {d : Kd α} {e base g : Nat} {u v : Value} {w W : World} {ok : Nat → Prop} {xs : List α} (h : Fr g u w W) (hS : Kd.S d e w base ok v xs) (hok : ∀ k, ok k → k ≠ g ∧ u.ownBlock ≠ some k) : Kd.S d e W base ok v xs :=
  Kd.S_step hS (fun k hk hlt => h.block k hlt (hok k hk).1 (hok k hk).2)
end Go.Proofs.Ytgcpbaipdpchfaa.H
