/- A region that draws its order, walked by an invariant over what has come up. No condition: plain lemmas. -/
import Derived.Test.YtnlmalicpckfbaaHBase
import Derived.Test.YtnlmalicpckfbaaWTab
import Derived.Test.YtnlmalicpckfbaaWLast
namespace Go.Proofs.Ytnlmalicpckfbaa.H
open Go.RowKit Go.Proofs.YtnlmalicpckfbaaW.PrintWords Go.Proofs.YtnlmalicpckfbaaW.PrintLast Go.Proofs.YtnlmalicpckfbaaW.PrintMore
variable {P : Program} {ops : Array Oper} {Q : Exit → Act → World → Prop} {T : Bool × List (List Nat × List Nat)}
/-- One operation's step keeps the invariant. -/
def StepI (P : Program) (ops : Array Oper) (Q : Exit → Act → World → Prop) (Inv : List Bool → Act → World → Prop) (i : Nat) (l : List Bool) (a : Act) (w : World) : Prop :=
  ∃ (oi : Oper) (N : Option Tmp), ops[i]? = some oi ∧ oi.dst = N ∧ ∀ K : Act → World → Prop, (∀ a' w', Inv (l.set i true) a' w' → K a' w') → if Region.wanted oi (yielded ops a.tmps) = true then Oper.wp P oi a w K Q else K (a.put N undef) w
theorem ready_false {L : List (List Nat × List Nat)} {l : List Bool} {i : Nat} (h : readyAt L l i = true) : l.getD i true = false := by
  unfold readyAt at h
  rw [Bool.and_eq_true] at h
  simpa using h.1
theorem count_step {l : List Bool} {i n : Nat} (h : l.getD i true = false) (hn : l.count false = n) : ∃ m, n = m + 1 ∧ (l.set i true).count false = m := by
  induction l generalizing i n with
  | nil => simp at h
  | cons b l ih =>
    cases i with
    | zero =>
      simp at h
      subst h
      rw [List.count_cons_self] at hn
      exact ⟨l.count false, hn.symm, by simp⟩
    | succ i =>
      simp only [List.getD_cons_succ] at h
      obtain ⟨m, h1, h2⟩ := ih h rfl
      cases b with
      | false =>
        rw [List.count_cons_self] at hn
        exact ⟨m + 1, by omega, by rw [List.set_cons_succ, List.count_cons_self, h2]⟩
      | true =>
        rw [List.count_cons_of_ne (by simp)] at hn
        exact ⟨m, by omega, by rw [List.set_cons_succ, List.count_cons_of_ne (by simp), h2]⟩
theorem walk_ {S : World → Prop} (hT : rtab .any ops = T) (Inv : List Bool → Act → World → Prop) (stop : List Bool) (hS : ∀ l a w, Inv l a w → S w)
    (hstep : ∀ l a w i, l ≠ stop → Inv l a w → readyAt T.2 l i = true → StepI P ops Q Inv i l a w)
    (hne : ∀ l a w, l ≠ stop → Inv l a w → readyT T.2 l ≠ [])
    (hstop : ∀ a w, Inv stop a w → wpAnyLast P .any ops Q S [] (stop.count false) stop.toArray a w) :
    ∀ (n : Nat) (l : List Bool) (a : Act) (w : World), l.count false = n → Inv l a w → wpAnyLast P .any ops Q S [] n l.toArray a w := by
  intro n
  induction n with
  | zero =>
    intro l a w hn hI
    by_cases hs : l = stop
    · subst hs
      rw [← hn]
      exact hstop a w hI
    · obtain ⟨i, hi⟩ := List.exists_mem_of_ne_nil _ (hne l a w hs hI)
      obtain ⟨m, h1, _⟩ := count_step (ready_false (List.mem_filter.1 hi).2) hn
      omega
  | succ n ih =>
    intro l a w hn hI
    by_cases hs : l = stop
    · subst hs
      rw [← hn]
      exact hstop a w hI
    · have hr : Region.ready .any ops l.toArray = readyT T.2 l := by rw [ready_eq, hT]
      refine wpAnyLast_all hr (hne l a w hs hI) (fun i hi => ?_)
      have hi2 := (List.mem_filter.1 hi).2
      obtain ⟨oi, N, ho, hN, hst⟩ := hstep l a w i hs hI hi2
      obtain ⟨m, h1, h2⟩ := count_step (ready_false hi2) hn
      obtain rfl : n = m := by omega
      subst hN
      refine wpOp_step ho (fun K' hK => hst K' (fun a' w' hI' => hK a' w' ⟨fun _ _ => hS _ _ _ hI', ?_⟩))
      have := ih (l.set i true) a' w' h2 hI'
      rwa [List.setIfInBounds_toArray]
end Go.Proofs.Ytnlmalicpckfbaa.H
