/- Plain lemmas for the pure statements: numbers that do not wrap, rounds that suffice, lists. No condition: plain lemmas. -/
import Derived.Test.YtgcpbaipdpchfaaWWords
namespace Go.Proofs.Ytgcpbaipdpchfaa.PB
open Go.RowKit Go.Proofs.YtgcpbaipdpchfaaW.PrintWords

theorem w64 {x : Int} (h1 : -9223372036854775808 ≤ x) (h2 : x ≤ 9223372036854775807) : wrap64 x = x := by unfold wrap64; omega

/-- One round of a loop, in the form that the loop's own definition has. -/
theorem ev_step {α : Type} {g f : Nat → Option α} {r : α} (h : ∀ k, g (k + 1) = f k) (k : Ev f r) : Ev g r := Ev.step h k
theorem ev_now {α : Type} (r : α) : Ev (fun _ : Nat => some r) r := Ev.now r
theorem ev_of_eq {α : Type} {g : Nat → Option α} {r : α} (h : ∀ k, g k = some r) : Ev g r := ⟨0, fun k _ => h k⟩

theorem set_len {α : Type} (xs ys : List α) (a v : α) : (xs ++ a :: ys).set xs.length v = xs ++ v :: ys := by
  rw [List.set_append_right _ _ (Nat.le_refl _)]
  simp
theorem getD_len {α : Type} (xs ys : List α) (a d : α) : (xs ++ a :: ys).getD xs.length d = a := by
  simp [List.getD_eq_getElem?_getD]
theorem getD_at {α : Type} (l : List α) (i : Nat) (d : α) (h : i < l.length) : l.getD i d = l[i] := by
  simp [List.getD_eq_getElem?_getD, h]
theorem drop_at {α : Type} (l : List α) (i : Nat) (d : α) (h : i < l.length) : l.drop i = l.getD i d :: l.drop (i + 1) := by
  rw [List.drop_eq_getElem_cons h, getD_at l i d h]
theorem take_at {α : Type} (l : List α) (i : Nat) (d : α) (h : i < l.length) : l.take (i + 1) = l.take i ++ [l.getD i d] := by
  rw [List.take_succ_eq_append_getElem h, getD_at l i d h]
/-- Two lists of one length that agree at each place. -/
theorem ext_getD {α : Type} (d : α) {a b : List α} (h : a.length = b.length) (h' : ∀ i, i < a.length → a.getD i d = b.getD i d) : a = b := by
  apply List.ext_getElem h
  intro i h1 h2
  have := h' i h1
  rwa [getD_at _ _ _ h1, getD_at _ _ _ h2] at this
theorem getD_set {α : Type} (l : List α) (i j : Nat) (v d : α) (h : j < l.length) : (l.set i v).getD j d = if i = j then v else l.getD j d := by
  simp only [List.getD_eq_getElem?_getD, List.getElem?_set]
  split
  · rename_i e
    subst e
    simp [h]
  · rfl
theorem getD_map {α β : Type} (f : α → β) (l : List α) (i : Nat) (d : α) (e : β) (h : i < l.length) : (l.map f).getD i e = f (l.getD i d) := by
  simp [List.getD_eq_getElem?_getD, h]
theorem getD_range_map {β : Type} (f : Nat → β) (n i : Nat) (e : β) (h : i < n) : ((List.range n).map f).getD i e = f i := by
  simp [List.getD_eq_getElem?_getD, h]
end Go.Proofs.Ytgcpbaipdpchfaa.PB
