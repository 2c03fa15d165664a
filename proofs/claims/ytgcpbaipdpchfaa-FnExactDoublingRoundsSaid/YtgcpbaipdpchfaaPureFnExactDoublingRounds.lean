/- The pure side of FnExactDoublingRounds: program and reference agree at every argument. No condition beside what an argument is. -/
import Derived.Test.YtgcpbaipdpchfaaPFnExactDoublingRoundsx18
import Derived.Test.YtgcpbaipdpchfaaPBase
import Derived.Test.YtgcpbaipdpchfaaHGoes
namespace Go.Proofs.Ytgcpbaipdpchfaa.Pure
open Go.RowKit Go.Proofs.Ytgcpbaipdpchfaa.PFnExactDoublingRounds Go.Proofs.YtgcpbaipdpchfaaW.PrintWords Go.Proofs.YtgcpbaipdpchfaaW.PrintLast Go.Proofs.YtgcpbaipdpchfaaW.PrintMore Go.Proofs.Ytgcpbaipdpchfaa.PB
set_option linter.unusedSimpArgs false
set_option linter.unusedVariables false
/-! calls: read, compared, marked -/
def toCalls (l : List S63) : List S54 := l.map fun c => ⟨c.f0, c.f1⟩
theorem toCalls_length (l : List S63) : (toCalls l).length = l.length := by simp [toCalls]

theorem eqCallS_l0 (a : List S54) (h : a.length ≤ 1048576) : ∀ (d : Nat) (i : Int), 0 ≤ i → i + d = a.length → Ev (fun k => laws_eqCallS.l0 k a a i) true := by
  intro d
  induction d with
  | zero =>
    intro i h0 hi
    refine ev_step (f := fun _ => some true) (fun k => ?_) (ev_now _)
    simp only [laws_eqCallS.l0]; rw [if_neg (by omega)]
  | succ d ih =>
    intro i h0 hi
    refine ev_step (f := fun k => laws_eqCallS.l0 k a a (i + 1)) (fun k => ?_) (ih _ (by omega) (by omega))
    simp only [laws_eqCallS.l0, laws_eqCall.f, if_true, Option.bind_some]
    rw [if_pos (by omega), if_pos h0, if_pos (by omega), w64 (by omega) (by omega)]
theorem eqCallS_ev (a : List S54) (h : a.length ≤ 1048576) : Ev (fun k => laws_eqCallS.f k a a) true := by
  unfold laws_eqCallS.f
  simp only [if_true]
  exact eqCallS_l0 a h a.length 0 (by omega) (by omega)

/-! calls: marked -/
def markedC (n : Nat) (m : Int) : List S54 := (List.range n).map fun i : Nat => ⟨m + 2 * (i : Int), m + 2 * (i : Int) + 1⟩
theorem markCallS_l0 (n : Nat) (m : Int) (hn : n ≤ 1048576) (hm : 0 ≤ m) (hm2 : m ≤ 1099511627776) : ∀ (d : Nat) (i : Int) (acc : List S54), 0 ≤ i → i + d = n → acc.length = n →
    (∀ j : Nat, (j : Int) < i → acc.getD j z54 = (markedC n m).getD j z54) → Ev (fun k => laws_markCallS.l0 k acc (m + 2 * i) i) (m + 2 * n, markedC n m) := by
  intro d
  induction d with
  | zero =>
    intro i acc h0 hi hl hacc
    refine ev_step (f := fun _ => some (m + 2 * i, acc)) (fun k => ?_) ?_
    · simp only [laws_markCallS.l0]; rw [if_neg (by omega)]
    · have e : acc = markedC n m := ext_getD z54 (by rw [hl]; simp [markedC]) (fun j hj => hacc j (by omega))
      rw [e, show m + 2 * i = m + 2 * n by omega]; exact ev_now _
  | succ d ih =>
    intro i acc h0 hi hl hacc
    refine ev_step (f := fun k => laws_markCallS.l0 k (acc.set i.toNat ⟨m + 2 * i, m + 2 * i + 1⟩) (m + 2 * (i + 1)) (i + 1)) (fun k => ?_) ?_
    · have hi' : i.toNat < acc.length := by omega
      simp only [laws_markCallS.l0, Option.bind_some, rd_T54]
      rw [if_pos (by omega), if_pos h0, w64 (by omega) (by omega), w64 (by omega) (by omega), w64 (by omega) (by omega), show m + 2 * i + 1 + 1 = m + 2 * (i + 1) by omega, List.set_set, getD_set _ _ _ _ _ hi']
      simp
    · refine ih (i + 1) _ (by omega) (by omega) (by simpa using hl) (fun j hj => ?_)
      rw [getD_set _ _ _ _ _ (by omega)]
      split
      · rename_i e
        subst e
        rw [markedC, getD_range_map _ _ _ _ (by omega), show ((i.toNat : Nat) : Int) = i by omega]
      · exact hacc j (by omega)
theorem markCallS_ev (l : List S54) (m : Int) (hn : l.length ≤ 1048576) (hm : 0 ≤ m) (hm2 : m ≤ 1099511627776) : Ev (fun k => laws_markCallS.f k l m) (m + 2 * (l.length : Int), markedC l.length m) := by
  unfold laws_markCallS.f
  have := markCallS_l0 l.length m hn hm hm2 l.length 0 l (by omega) (by omega) rfl (fun j hj => by omega)
  simpa using this

/-! calls: held -/
theorem heldCallS_l0 (n : Nat) (m : Int) (hn : n ≤ 1048576) (hm : 0 ≤ m) (hm2 : m ≤ 1099511627776) : ∀ (d : Nat) (i : Int), 0 ≤ i → i + d = n → Ev (fun k => laws_heldCallS.l0 k (markedC n m) (m + 2 * i) i) (m + 2 * n) := by
  intro d
  have hl : (markedC n m).length = n := by simp [markedC]
  induction d with
  | zero =>
    intro i h0 hi
    refine ev_step (f := fun _ => some (m + 2 * i)) (fun k => ?_) ?_
    · simp only [laws_heldCallS.l0]; rw [if_neg (by omega)]
    · rw [show m + 2 * i = m + 2 * n by omega]; exact ev_now _
  | succ d ih =>
    intro i h0 hi
    refine ev_step (f := fun k => laws_heldCallS.l0 k (markedC n m) (m + 2 * (i + 1)) (i + 1)) (fun k => ?_) (ih _ (by omega) (by omega))
    have e : rd_T54 (markedC n m) i = ⟨m + 2 * i, m + 2 * i + 1⟩ := by
      show (markedC n m).getD i.toNat z54 = _
      rw [markedC, getD_range_map _ _ _ _ (by omega), show ((i.toNat : Nat) : Int) = i by omega]
    simp only [laws_heldCallS.l0, e, if_true]
    rw [if_pos (by omega), if_pos h0, w64 (by omega) (by omega), w64 (by omega) (by omega), w64 (by omega) (by omega), if_pos rfl, show m + 2 * i + 1 + 1 = m + 2 * (i + 1) by omega]
theorem heldCallS_ev (n : Nat) (m : Int) (hn : n ≤ 1048576) (hm : 0 ≤ m) (hm2 : m ≤ 1099511627776) : Ev (fun k => laws_heldCallS.f k (markedC n m) m) (m + 2 * (n : Int)) := by
  unfold laws_heldCallS.f
  have := heldCallS_l0 n m hn hm hm2 n 0 (by omega) (by omega)
  simpa using this

/-! spec.caGood -/
theorem caFriends_f (n : Int) : spec_caFriends.f n = some (decide (1 ≤ n) && decide (n ≤ 10)) := by
  unfold spec_caFriends.f spec_l1In.f
  by_cases h1 : 1 ≤ n <;> by_cases h2 : n ≤ 10 <;> simp [h1, h2]
/-! rows of rows: compared, marked -/
def totC : List (List S54) → Int
  | [] => 0
  | r :: rs => 2 * (r.length : Int) + totC rs
def markedRC : List (List S54) → Int → List (List S54)
  | [], _ => []
  | r :: rs, m => markedC r.length m :: markedRC rs (m + 2 * (r.length : Int))
def RowsC (l : List (List S54)) : Prop := l.length ≤ 1048576 ∧ ∀ r ∈ l, r.length ≤ 1048576
theorem totC_nonneg : ∀ (l : List (List S54)), 0 ≤ totC l
  | [] => Int.le_refl _
  | r :: rs => by have := totC_nonneg rs; simp only [totC]; omega
theorem totC_le (b : Nat) : ∀ (l : List (List S54)), (∀ r ∈ l, r.length ≤ b) → totC l ≤ 2 * (b : Int) * l.length
  | [], _ => by simp [totC]
  | r :: rs, h => by
    have h1 := totC_le b rs (fun x hx => h x (List.mem_cons_of_mem _ hx))
    have h2 := h r (List.mem_cons_self)
    have e : 2 * (b : Int) * ((r :: rs).length : Nat) = 2 * (b : Int) * (rs.length : Nat) + 2 * (b : Int) := by
      rw [List.length_cons, Int.natCast_succ, Int.mul_add, Int.mul_one]
    rw [e]
    simp only [totC]
    omega
theorem eqCallSS_l0 : ∀ (rest done : List (List S54)), done.length + rest.length ≤ 1048576 → (∀ r ∈ rest, r.length ≤ 1048576) →
    Ev (fun k => laws_eqCallSS.l0 k (done ++ rest) (done ++ rest) (done.length : Int)) true
  | [], done, h, _ => by
    refine ev_step (f := fun _ => some true) (fun k => ?_) (ev_now _)
    simp only [laws_eqCallSS.l0]
    rw [if_neg (by simp)]
  | r :: rest, done, h, hr => by
    simp only [List.length_cons] at h
    have e : rd_L2 (done ++ r :: rest) (done.length : Int) = r := by
      show (done ++ r :: rest).getD ((done.length : Int)).toNat [] = r
      rw [Int.toNat_natCast, getD_len]
    refine ev_step (f := fun k => (laws_eqCallS.f k r r).bind fun t => if t = true then laws_eqCallSS.l0 k (done ++ r :: rest) (done ++ r :: rest) ((done.length : Int) + 1) else some false) (fun k => ?_) ?_
    · simp only [laws_eqCallSS.l0, e]
      rw [if_pos (by rw [List.length_append, List.length_cons]; omega), if_pos (by omega), if_pos (by rw [List.length_append, List.length_cons]; omega), w64 (by omega) (by omega)]
    · refine Ev.bind (eqCallS_ev r (hr r (List.mem_cons_self))) ?_
      simp only [if_true]
      have := eqCallSS_l0 rest (done ++ [r]) (by rw [List.length_append, List.length_singleton]; omega) (fun x hx => hr x (List.mem_cons_of_mem _ hx))
      rw [List.append_assoc, List.singleton_append, List.length_append, List.length_singleton] at this
      simpa using this
theorem eqCallSS_ev (a : List (List S54)) (h : RowsC a) : Ev (fun k => laws_eqCallSS.f k a a) true := by
  unfold laws_eqCallSS.f
  simp only [if_true]
  have := eqCallSS_l0 a [] (by simpa using h.1) h.2
  simpa using this
theorem markCallSS_l0 : ∀ (rest done : List (List S54)) (m : Int), done.length + rest.length ≤ 1048576 → (∀ r ∈ rest, r.length ≤ 1048576) → 0 ≤ m → m + totC rest ≤ 1099511627776 →
    Ev (fun k => laws_markCallSS.l0 k (done ++ rest) m (done.length : Int)) (m + totC rest, done ++ markedRC rest m)
  | [], done, m, h, _, _, _ => by
    refine ev_step (f := fun _ => some (m, done ++ [])) (fun k => ?_) ?_
    · simp only [laws_markCallSS.l0]
      rw [if_neg (by simp)]
    · simp only [totC, Int.add_zero, markedRC]; exact ev_now _
  | r :: rest, done, m, h, hr, hm, hb => by
    simp only [List.length_cons] at h
    simp only [totC] at hb
    have hn := totC_nonneg rest
    refine ev_step (f := fun k => (laws_markCallS.f k r m).bind fun t => laws_markCallSS.l0 k ((done ++ r :: rest).set done.length t.2) t.1 ((done.length : Int) + 1)) (fun k => ?_) ?_
    · simp only [laws_markCallSS.l0, Int.toNat_natCast, getD_len]
      rw [if_pos (by rw [List.length_append, List.length_cons]; omega), if_pos (by omega), w64 (by omega) (by omega)]
    · refine Ev.bind (markCallS_ev r m (hr r (List.mem_cons_self)) hm (by omega)) ?_
      have := markCallSS_l0 rest (done ++ [markedC r.length m]) (m + 2 * (r.length : Int)) (by rw [List.length_append, List.length_singleton]; omega) (fun x hx => hr x (List.mem_cons_of_mem _ hx)) (by omega) (by omega)
      rw [List.append_assoc, List.singleton_append, List.length_append, List.length_singleton] at this
      simp only [set_len, totC, markedRC]
      rw [List.append_assoc, List.singleton_append, Int.add_assoc] at this
      simpa using this
theorem markCallSS_ev (l : List (List S54)) (m : Int) (h : RowsC l) (hm : 0 ≤ m) (hb : m + totC l ≤ 1099511627776) : Ev (fun k => laws_markCallSS.f k l m) (m + totC l, markedRC l m) := by
  unfold laws_markCallSS.f
  have := markCallSS_l0 l [] m (by simpa using h.1) h.2 hm hb
  simpa using this
theorem heldCallSS_l0 : ∀ (rest done : List (List S54)) (m : Int), done.length + rest.length ≤ 1048576 → (∀ r ∈ rest, r.length ≤ 1048576) → 0 ≤ m → m + totC rest ≤ 1099511627776 →
    Ev (fun k => laws_heldCallSS.l0 k (done ++ markedRC rest m) m (done.length : Int)) (m + totC rest)
  | [], done, m, h, _, _, _ => by
    show Ev (fun k => laws_heldCallSS.l0 k (done ++ []) m (done.length : Int)) (m + totC [])
    refine ev_step (f := fun _ => some m) (fun k => ?_) ?_
    · have hh : ¬ ((done.length : Int) < ((done ++ ([] : List (List S54))).length : Int)) := by simp
      simp only [laws_heldCallSS.l0]
      rw [if_neg hh]
    · simp only [totC, Int.add_zero]; exact ev_now _
  | r :: rest, done, m, h, hr, hm, hb => by
    simp only [List.length_cons] at h
    simp only [totC] at hb
    have hn := totC_nonneg rest
    have e : rd_L2 (done ++ markedC r.length m :: markedRC rest (m + 2 * (r.length : Int))) (done.length : Int) = markedC r.length m := by
      show (done ++ markedC r.length m :: markedRC rest (m + 2 * (r.length : Int))).getD ((done.length : Int)).toNat [] = _
      rw [Int.toNat_natCast, getD_len]
    show Ev (fun k => laws_heldCallSS.l0 k (done ++ markedC r.length m :: markedRC rest (m + 2 * (r.length : Int))) m (done.length : Int)) _
    refine ev_step (f := fun k => (laws_heldCallS.f k (markedC r.length m) m).bind fun t => if t < 0 then some (-1) else laws_heldCallSS.l0 k (done ++ markedC r.length m :: markedRC rest (m + 2 * (r.length : Int))) t ((done.length : Int) + 1)) (fun k => ?_) ?_
    · simp only [laws_heldCallSS.l0, e]
      rw [if_pos (by rw [List.length_append, List.length_cons]; omega), if_pos (by omega), w64 (by omega) (by omega)]
    · refine Ev.bind (heldCallS_ev r.length m (hr r (List.mem_cons_self)) hm (by omega)) ?_
      have hp : ¬ m + 2 * (r.length : Int) < 0 := by omega
      simp only [if_neg hp]
      have := heldCallSS_l0 rest (done ++ [markedC r.length m]) (m + 2 * (r.length : Int)) (by rw [List.length_append, List.length_singleton]; omega) (fun x hx => hr x (List.mem_cons_of_mem _ hx)) (by omega) (by omega)
      rw [List.append_assoc, List.singleton_append, List.length_append, List.length_singleton] at this
      simp only [totC]
      rw [Int.add_assoc] at this
      simpa using this
theorem heldCallSS_ev (l : List (List S54)) (m : Int) (h : RowsC l) (hm : 0 ≤ m) (hb : m + totC l ≤ 1099511627776) : Ev (fun k => laws_heldCallSS.f k (markedRC l m) m) (m + totC l) := by
  unfold laws_heldCallSS.f
  have := heldCallSS_l0 l [] m (by simpa using h.1) h.2 hm hb
  simpa using this
theorem rowsC_tot {l : List (List S54)} (h1 : l.length ≤ 1000) (h2 : ∀ r ∈ l, r.length ≤ 1048576) : RowsC l ∧ 1 + totC l ≤ 1099511627776 := by
  refine ⟨⟨by omega, h2⟩, ?_⟩
  have := totC_le 1048576 l h2
  omega

instance : DecidableEq S54 := fun a b => if h : a.f0 = b.f0 ∧ a.f1 = b.f1 then isTrue (by cases a; cases b; simp at h; simp [h]) else isFalse (fun e => h ⟨by rw [e], by rw [e]⟩)
def tabP (m : Nat) : List (List S54) × Bool := (spec_DoublingRounds.f 300 ((2 * (m + 1) : Nat) : Int)).getD ([], false)
theorem tab_spec : ∀ m : Fin 5, spec_DoublingRounds.f 300 ((2 * (m.val + 1) : Nat) : Int) = some (tabP m.val) := by decide +kernel
theorem tab_impl : ∀ m : Fin 5, impl_DoublingRounds.f 1300 ((2 * (m.val + 1) : Nat) : Int) = some (tabP m.val) := by decide +kernel
theorem tab_len : ∀ m : Fin 5, (tabP m.val).1.length ≤ 5 ∧ ((tabP m.val).1.all fun r => decide (r.length ≤ 5)) = true := by decide +kernel
def resP (n : Int) : List (List S54) × Bool := if 1 ≤ n ∧ n ≤ 10 ∧ n % 2 = 0 then tabP (n.toNat / 2 - 1) else ([], false)
theorem at_even {n : Int} (h : 1 ≤ n ∧ n ≤ 10 ∧ n % 2 = 0) : n.toNat / 2 - 1 < 5 ∧ n = ((2 * (n.toNat / 2 - 1 + 1) : Nat) : Int) := by omega
theorem resP_rows (n : Int) : RowsC (resP n).1 ∧ 1 + totC (resP n).1 ≤ 1099511627776 := by
  have h : (resP n).1.length ≤ 5 ∧ ∀ r ∈ (resP n).1, r.length ≤ 5 := by
    unfold resP
    split
    · rename_i hc
      obtain ⟨h1, h2⟩ := tab_len ⟨n.toNat / 2 - 1, (at_even hc).1⟩
      exact ⟨h1, fun r hr => by simpa using List.all_eq_true.1 h2 r hr⟩
    · exact ⟨Nat.zero_le _, fun r hr => by cases hr⟩
  refine ⟨⟨by omega, fun r hr => by have := h.2 r hr; omega⟩, ?_⟩
  have h2 := totC_le 5 (resP n).1 h.2
  omega
theorem caFriends_f' (n : Int) : spec_caFriends.f n = some (decide (1 ≤ n) && decide (n ≤ 10)) := by
  unfold spec_caFriends.f spec_l1In.f
  by_cases h1 : 1 ≤ n <;> by_cases h2 : n ≤ 10 <;> simp [h1, h2]
theorem areFriends_f' (n : Int) : impl_areFriends.f n = some (decide (1 ≤ n) && decide (n ≤ 10)) := by
  unfold impl_areFriends.f impl_within.f
  by_cases h1 : 1 ≤ n <;> by_cases h2 : n ≤ 10 <;> simp [h1, h2]
theorem spec_ev (n : Int) : Ev (fun k => spec_DoublingRounds.f k n) (resP n) := by
  unfold resP
  by_cases hc : 1 ≤ n ∧ n ≤ 10 ∧ n % 2 = 0
  · rw [if_pos hc]
    obtain ⟨h1, h2⟩ := at_even hc
    have h := tab_spec ⟨n.toNat / 2 - 1, h1⟩
    simp only [← h2] at h
    exact Ev.of (spec_DoublingRounds.mono _) h
  · rw [if_neg hc]
    unfold spec_DoublingRounds.f
    simp only [caFriends_f', Option.bind_some]
    by_cases h1 : 1 ≤ n ∧ n ≤ 10
    · have h2 : (Int.tmod n 2 != 0) = true := by
        rw [Int.tmod_eq_emod_of_nonneg (by omega), bne_iff_ne]; omega
      simp only [h1, decide_true, Bool.and_self, if_true, h2]
      exact Ev.step (fun k => by simp only [spec_DoublingRounds.j0, if_true] <;> exact rfl) (ev_now _)
    · have h2 : (decide (1 ≤ n) && decide (n ≤ 10)) = false := by
        rw [Bool.eq_false_iff]; intro hh; simp only [Bool.and_eq_true, decide_eq_true_eq] at hh; exact h1 hh
      simp only [h2, Bool.false_eq_true, if_false]
      exact Ev.step (fun k => by simp only [spec_DoublingRounds.j0, if_true] <;> exact rfl) (ev_now _)
theorem impl_ev (n : Int) : Ev (fun k => impl_DoublingRounds.f k n) (resP n) := by
  unfold resP
  by_cases hc : 1 ≤ n ∧ n ≤ 10 ∧ n % 2 = 0
  · rw [if_pos hc]
    obtain ⟨h1, h2⟩ := at_even hc
    have h := tab_impl ⟨n.toNat / 2 - 1, h1⟩
    simp only [← h2] at h
    exact Ev.of (impl_DoublingRounds.mono _) h
  · rw [if_neg hc]
    unfold impl_DoublingRounds.f
    simp only [areFriends_f', Option.bind_some]
    by_cases h1 : 1 ≤ n ∧ n ≤ 10
    · have h2 : (Int.tmod n 2 == 1) = true := by
        rw [Int.tmod_eq_emod_of_nonneg (by omega), beq_iff_eq]; omega
      simp only [h1, decide_true, Bool.and_self, if_true, h2]
      exact Ev.step (fun k => by simp only [impl_DoublingRounds.j0, if_true] <;> exact rfl) (ev_now _)
    · have h2 : (decide (1 ≤ n) && decide (n ≤ 10)) = false := by
        rw [Bool.eq_false_iff]; intro hh; simp only [Bool.and_eq_true, decide_eq_true_eq] at hh; exact h1 hh
      simp only [h2, Bool.false_eq_true, if_false]
      exact Ev.step (fun k => by simp only [impl_DoublingRounds.j0, if_true] <;> exact rfl) (ev_now _)
theorem FnExactDoublingRounds : ∀ (a0 : Int), (Lit.int .i64 a0).wf = true → ∃ k, laws_FnExactDoublingRounds.f k a0 = some true := by
  intro a0 w0
  apply Ev.rounds
  unfold laws_FnExactDoublingRounds.f
  refine Ev.bind (spec_ev a0) ?_
  refine Ev.bind (impl_ev a0) ?_
  obtain ⟨hr, hb⟩ := resP_rows a0
  refine Ev.bind (eqCallSS_ev _ hr) ?_
  simp only [true_and, if_true]
  refine Ev.bind (markCallSS_ev _ 1 hr (by omega) hb) ?_
  refine Ev.bind (heldCallSS_ev _ 1 hr (by omega) hb) ?_
  have hp : 0 ≤ 1 + totC (resP a0).1 := by have := totC_nonneg (resP a0).1; omega
  simp only [hp, and_self, if_true]
  exact ev_now _

end Go.Proofs.Ytgcpbaipdpchfaa.Pure
