/- What a round of matchings' literal keeps. No condition: plain lemmas. -/
import Derived.Test.YtgcpbaipdpchfaaHFrame
namespace Go.Proofs.Ytgcpbaipdpchfaa.H
open Go Go.RowKit Go.Proofs.YtgcpbaipdpchfaaW.PrintWords Go.Proofs.YtgcpbaipdpchfaaW.PrintLast Go.Proofs.YtgcpbaipdpchfaaW.PrintMore
structure AddInv {α : Type} (d : Kd α) (e T TT B_ g0 g1 g2 : Nat) (v : Value) (w_ : World) (A0 : Option Addr) (l0 : List α) (A4 : Option Addr) (l4 : List α) (x1 x2 : Value) (vr : Value) (out : List (List α)) (W : World) : Prop where
  hB : B_ ≤ w_.heap.size
  g : W.heap[g0]? = some (.cells #[vr] TT (0, 0))
  S : Kd.S (Kd.slice e d) T W B_ (fun k => k ≠ g0) vr out
  fresh : vr.ownBlock = v.ownBlock ∨ ∃ b, vr.ownBlock = some b ∧ w_.heap.size ≤ b
  fr : Fr g0 v w_ W
  L : Kd.F d W (fun k => k ≠ g0 ∧ vr.ownBlock ≠ some k) A0 l0.length l0
  C : Kd.F d W (fun k => k ≠ g0 ∧ vr.ownBlock ≠ some k) A4 l4.length l4
  n1 : g1 ≠ g0 ∧ vr.ownBlock ≠ some g1
  n2 : g2 ≠ g0 ∧ vr.ownBlock ≠ some g2
  c1 : W.cell? ⟨g1, 0, none⟩ = some x1
  c2 : W.cell? ⟨g2, 0, none⟩ = some x2
section
variable {α : Type} {d : Kd α} {e T TT B_ g0 g1 g2 : Nat} {v : Value} {w_ : World} {A0 : Option Addr} {l0 : List α} {A4 : Option Addr} {l4 : List α} {x1 x2 : Value} {vr v2 : Value} {out out2 : List (List α)} {W W' : World}
theorem AddInv.below (h : AddInv d e T TT B_ g0 g1 g2 v w_ A0 l0 A4 l4 x1 x2 vr out W) (hb : Below W.heap.size W W') : AddInv d e T TT B_ g0 g1 g2 v w_ A0 l0 A4 l4 x1 x2 vr out W' :=
  ⟨h.hB, (hb.block g0 (blk_lt h.g)).trans h.g, Kd.S_below h.S hb, h.fresh, h.fr.trans h.fresh (Fr.of_below hb), Kd.F_below h.L hb, Kd.F_below h.C hb, h.n1, h.n2, cell_b hb h.c1, cell_b hb h.c2⟩
/-- A row that is not the variable's is none of it either behind the call. -/
theorem own_keep {k : Nat} (hf : v2.ownBlock = vr.ownBlock ∨ ∃ b, v2.ownBlock = some b ∧ W.heap.size ≤ b) (hk : k < W.heap.size) (hn : vr.ownBlock ≠ some k) : v2.ownBlock ≠ some k := by
  rcases hf with he | ⟨b, he, hb⟩
  · rw [he]; exact hn
  · rw [he]
    intro h9
    injection h9 with h9
    omega
theorem AddInv.call (h : AddInv d e T TT B_ g0 g1 g2 v w_ A0 l0 A4 l4 x1 x2 vr out W) (hg : W'.heap[g0]? = some (.cells #[v2] TT (0, 0))) (hS : Kd.S (Kd.slice e d) T W' B_ (fun k => k ≠ g0) v2 out2)
    (hf : v2.ownBlock = vr.ownBlock ∨ ∃ b, v2.ownBlock = some b ∧ W.heap.size ≤ b) (hF : Fr g0 vr W W') : AddInv d e T TT B_ g0 g1 g2 v w_ A0 l0 A4 l4 x1 x2 v2 out2 W' := by
  have hm : ∀ {A : Option Addr} {n : Nat} {l : List α}, Kd.F d W (fun k => k ≠ g0 ∧ vr.ownBlock ≠ some k) A n l → Kd.F d W' (fun k => k ≠ g0 ∧ v2.ownBlock ≠ some k) A n l := fun hFF =>
    Kd.F_mono (hF.F (Kd.F_bound hFF) (fun k hk => hk.1)) (fun k hk => ⟨hk.1.1, own_keep hf hk.2 hk.1.2⟩)
  refine ⟨h.hB, hg, hS, ?_, h.fr.trans h.fresh hF, hm h.L, hm h.C, ⟨h.n1.1, own_keep hf (World.block_lt_of_cell? W _ h.c1) h.n1.2⟩, ⟨h.n2.1, own_keep hf (World.block_lt_of_cell? W _ h.c2) h.n2.2⟩, hF.cell h.c1 h.n1.1 h.n1.2, hF.cell h.c2 h.n2.1 h.n2.2⟩
  rcases hf with he | ⟨b, he, hb⟩
  · rw [he]; exact h.fresh
  · exact .inr ⟨b, he, Nat.le_trans h.fr.size hb⟩
end
end Go.Proofs.Ytgcpbaipdpchfaa.H
