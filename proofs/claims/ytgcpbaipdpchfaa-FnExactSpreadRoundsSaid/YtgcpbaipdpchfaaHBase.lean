/- Small lemmas on worlds, and how an argument that reads as data is read as a list: what the session's own contracts and rows use. No condition: plain lemmas. -/
import Derived.Test.YtgcpbaipdpchfaaProg
import Derived.Below
import Derived.Deep.Draws
import Derived.Deep.Slices
import Derived.OwnWalk
import Derived.Tactics
import Derived.WalkKit
import Derived.KernelRfl
import Derived.RowKit3
import Derived.Deep.LoopGhost
import Derived.Deep.QuietTactic
import Derived.BigQuiet
import Derived.Outline
import Derived.Shelf.Abstract
import Derived.Lib.Hide
import Derived.RegionTactic
import Derived.BigRegion
import Derived.Test.YtgcpbaipdpchfaaWMore
import Derived.Test.YtgcpbaipdpchfaaWGuard
import Derived.Test.YtgcpbaipdpchfaaWNEv
namespace Go.Proofs.Ytgcpbaipdpchfaa.H
open Go.Deep Go.ChangeShapes Go.WideShapes Go.RowKit Go.Proofs.YtgcpbaipdpchfaaW.PrintWords Go.Proofs.YtgcpbaipdpchfaaW.PrintLast Go.Proofs.YtgcpbaipdpchfaaW.PrintMore

/-- A cell that lay there before lies there still. -/
theorem cell_b {w W : World} {a : Addr} {v : Value} (hb : Below w.heap.size w W) (h : w.cell? a = some v) : W.cell? a = some v :=
  (hb.cell (World.block_lt_of_cell? w a h)).trans h


section
variable {H : Type} {enc : TypeId × Value → H} {P : Program} {w : World} {α : Type}

/-- Whatever reads by type e is a value of kind d. -/
def Opens (enc : TypeId × Value → H) (P : Program) (w : World) (d : Kd α) (e : TypeId) : Prop :=
  P.cellsOf e = d.sz ∧ ∀ (base : Nat) (spare : Nat → Bool) (held : Bool) (fuel : Nat) (cs : List Value) (x : DataW H × List MemPlace), DataW.trod enc P w base spare held fuel e cs = some x → ∃ y : α, d.K w y cs

theorem opens_int {e : TypeId} {k : IntKind} (he : P.underlying e = some (.int k)) (hc : P.cellsOf e = 1) : Opens enc P w (Kd.int k) e :=
  ⟨hc, fun _ _ _ _ _ _ h => by obtain ⟨n, hcs, _, _⟩ := DataW.trod_int he h; exact ⟨n, hcs⟩⟩

theorem opens_pair {d : Kd α} {e : TypeId} {f0 f1 : Field} (mk : Int → Int → α) (hmk : ∀ a b, d.K w (mk a b) [.int .i64 a, .int .i64 b]) (hs : d.sz = 2)
    (he : P.underlying e = some (.struct #[f0, f1])) (ce : P.cellsOf e = 2) (o0 : f0.offset = 0) (o1 : f1.offset = 1) (c0 : P.cellsOf f0.type = 1) (c1 : P.cellsOf f1.type = 1)
    (u0 : P.underlying f0.type = some (.int .i64)) (u1 : P.underlying f1.type = some (.int .i64)) : Opens enc P w d e :=
  ⟨by rw [ce, hs], fun _ _ _ _ cs x h => by
    obtain ⟨xs, k, hk, hxy, hl, hxl, hf⟩ := DataW.trod_struct he h
    rw [ce] at hl
    match xs, hxl, cs, hl with
    | [y0, y1], _, [v0, v1], _ =>
      have g0 := hf 0 f0 rfl
      have g1 := hf 1 f1 rfl
      simp [o0, o1, c0, c1] at g0 g1
      obtain ⟨a, e0, _, _⟩ := DataW.trod_int u0 g0
      obtain ⟨b, e1, _, _⟩ := DataW.trod_int u1 g1
      simp only [List.cons.injEq, and_true] at e0 e1
      subst e0 e1
      exact ⟨mk a b, hmk a b⟩⟩

/-- A slice that reads as data is read as a list. -/
theorem reads_slice [Inhabited α] {d : Kd α} {t e : TypeId} (ht : P.underlying t = some (.slice e)) (h : Opens enc P w d e) {base : Nat} {spare : Nat → Bool} {held : Bool} {fuel : Nat} {A : Option Addr} {len cap : Nat} {x : DataW H × List MemPlace}
    (hf : DataW.trod enc P w base spare held fuel t [.slice A len cap] = some x) : ∃ xs : List α, xs.length = len ∧ len ≤ cap ∧ Kd.C d w A xs.length xs := by
  rcases open_slice ht hf with ⟨hcs, _⟩ | ⟨a, len', cap', m, n, D, Pl, hcs, _, hl, hm, hmm, _, hx⟩
  · simp only [List.cons.injEq, Value.slice.injEq, and_true] at hcs
    obtain ⟨rfl, rfl, rfl⟩ := hcs
    exact ⟨[], rfl, Nat.le_refl _, Kd.C_nil _ _⟩
  · simp only [List.cons.injEq, Value.slice.injEq, and_true] at hcs
    obtain ⟨rfl, rfl, rfl⟩ := hcs
    have hlm : len ≤ m := by rw [hmm]; split <;> omega
    obtain ⟨f, hf'⟩ := choose_lt (n := len) (p := fun i (y : α) => ∃ cs', d.K w y cs' ∧ ∀ j, j < d.sz → w.cell? (a.add (i * d.sz + j)) = cs'[j]?) (fun i hi => by
      obtain ⟨cs', h1, h2⟩ := hx i (by omega)
      obtain ⟨y, hy⟩ := h.2 _ _ _ _ _ _ h2
      obtain ⟨_, _, hcell⟩ := World.cells?_some h1
      rw [h.1] at hcell
      refine ⟨y, cs', hy, fun j hj => ?_⟩
      rw [← hcell j hj, Deep.add_add])
    refine ⟨(List.range len).map f, by simp, hl, by simp, by simp only [maxLen] at hm; simp; omega, fun _ => ⟨a, rfl, fun j p hp => ?_⟩⟩
    have hj : j < len := by have := (List.getElem?_eq_some_iff.1 hp).1; simpa using this
    have hpe : p = f j := by
      rw [List.getElem?_map, List.getElem?_range hj] at hp
      simpa using hp.symm
    subst hpe
    obtain ⟨cs', hk, hc⟩ := hf' j hj
    refine ⟨cs', d.K_len hk, hk, fun i u hu => ?_⟩
    have hi : i < d.sz := by have := (List.getElem?_eq_some_iff.1 hu).1; rw [d.K_len hk] at this; exact this
    rw [hc i hi, hu]

theorem opens_slice [Inhabited α] {d : Kd α} {t e : TypeId} (ht : P.underlying t = some (.slice e)) (hc : P.cellsOf t = 1) (h : Opens enc P w d e) : Opens enc P w (Kd.slice e d) t :=
  ⟨hc, fun _ _ _ _ cs x hf => by
    rcases open_slice ht hf with ⟨hcs, _⟩ | ⟨a, len, cap, m, n, D, Pl, hcs, _, hl, hm, hmm, _, hx⟩
    · subst hcs
      obtain ⟨xs, h1, h2, h3⟩ := reads_slice ht h hf
      exact ⟨xs, none, 0, by rw [h1], by rw [h1]; exact h2, h3⟩
    · subst hcs
      obtain ⟨xs, h1, h2, h3⟩ := reads_slice ht h hf
      exact ⟨xs, some a, cap, by rw [h1], by rw [h1]; exact h2, h3⟩⟩
end

section
variable {α : Type} [Inhabited α] {d : Kd α} {fa fb : α → Int}
/-- The two cells of an element of a row of pairs. -/
theorem at_pair (hs : d.sz = 2) (ho : ∀ w x cs, d.K w x cs → cs = [.int .i64 (fa x), .int .i64 (fb x)]) {w : World} {A : Option Addr} {n : Nat} {xs : List α} (h : Kd.C d w A n xs) (i : Int) (h0 : 0 ≤ i) (h1 : i < n) :
    ∃ ad, A = some ad ∧ w.cell? (ad.add (i.toNat * 2)) = some (.int .i64 (fa (xs.getD i.toNat default))) ∧ w.cell? ⟨(ad.add (i.toNat * 2)).block, (ad.add (i.toNat * 2)).off + 1, none⟩ = some (.int .i64 (fb (xs.getD i.toNat default))) := by
  obtain ⟨ad, c, e, _, hK, hc0⟩ := Kd.C_get h default i h0 h1
  rw [hs] at hc0
  have hc : ∀ j u, c[j]? = some u → w.cell? (ad.add (i.toNat * 2 + j)) = some u := hc0
  have hcs := ho _ _ _ hK
  subst hcs
  exact ⟨ad, e, hc 0 _ rfl, by rw [← add_field _ _ 1 (by omega)]; exact hc 1 _ rfl⟩
end

end Go.Proofs.Ytgcpbaipdpchfaa.H
