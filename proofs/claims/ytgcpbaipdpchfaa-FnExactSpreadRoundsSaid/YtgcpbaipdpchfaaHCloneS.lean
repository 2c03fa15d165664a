/- slices.Clone of a row of rows: a new row with the same rows in it (shared, as they lie): told of what the memory holds alone. -/
import Derived.Test.YtgcpbaipdpchfaaHBase
import Derived.Test.YtgcpbaipdpchfaaWApart
import Derived.Test.YtgcpbaipdpchfaaWMore
import Derived.Test.YtgcpbaipdpchfaaWN
import Derived.Test.YtgcpbaipdpchfaaWKept
namespace Go.Proofs.Ytgcpbaipdpchfaa.H
open Go Go.RowKit Go.Proofs.YtgcpbaipdpchfaaW.PrintWords Go.Proofs.YtgcpbaipdpchfaaW.PrintLast Go.Proofs.YtgcpbaipdpchfaaW.PrintMore
theorem S_afterv {α : Type} {d : Kd α} {e base : Nat} {ok : Nat → Prop} {W w1 : World} {u v v1 : Value} {xs : List α} (h : Kd.S d e W base (fun k => ok k ∧ some k ≠ v.ownBlock) u xs) (hg : W.grownBy w1 v.ownBlock) (hat : v1.ownBlock = v.ownBlock ∨ ∃ b, v1.ownBlock = some b ∧ W.heap.size ≤ b) : Kd.S d e w1 base (fun k => ok k ∧ some k ≠ v1.ownBlock) u xs := by
  have h1 := Kd.S_grown (Kd.S_bound h) hg (fun k hk => hk.1.2)
  refine Kd.S_mono h1 (fun k hk => ⟨hk.1.1, ?_⟩)
  rcases hat with he | ⟨b, he, hb⟩
  · rw [he]; exact hk.1.2
  · rw [he]
    intro h9
    injection h9 with h9
    have := hk.2.2.1
    omega
theorem below_app {w w1 w2 : World} {v : Value} (h : Below w.heap.size w w1) (hg : w1.grownBy w2 v.ownBlock) (hf : ∀ k, v.ownBlock = some k → w.heap.size ≤ k) : Below w.heap.size w w2 := pw_below_grown h v.ownBlock (below_size h) hg hf
end Go.Proofs.Ytgcpbaipdpchfaa.H
