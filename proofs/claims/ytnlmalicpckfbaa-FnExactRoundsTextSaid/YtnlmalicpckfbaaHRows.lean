/- No row of a slice of slices is longer than Go's greatest length. -/
import Derived.Test.YtnlmalicpckfbaaHBase
namespace Go.Proofs.Ytnlmalicpckfbaa.H
open Go.RowKit Go.Proofs.YtnlmalicpckfbaaW.PrintWords Go.Proofs.YtnlmalicpckfbaaW.PrintLast Go.Proofs.YtnlmalicpckfbaaW.PrintMore
theorem rows_max {α : Type} {d : Kd α} {T : TypeId} {w : World} {A : Option Addr} {xs : List (List α)} (h : Kd.C (Kd.slice T d) w A xs.length xs) : ∀ r ∈ xs, r.length ≤ 9223372036854775807 := by
  intro r hr
  obtain ⟨i, hi, rfl⟩ := List.getElem_of_mem hr
  obtain ⟨ad, c, e, _, hK, hc0⟩ := Kd.C_get h ([] : List α) (i : Int) (by omega) (by omega)
  obtain ⟨A0, c0, rfl, l0, g0⟩ := hK
  have hm := Kd.C_max g0
  rw [Int.toNat_natCast, List.getD_eq_getElem?_getD, List.getElem?_eq_getElem hi] at hm
  exact hm
end Go.Proofs.Ytnlmalicpckfbaa.H
