/- The pure side of FnExactLettersOfCalls: program and reference agree at every argument. No condition beside what an argument is. -/
import Derived.Test.YtchdgmamkafcnaaPFnExactLettersOfCallsx13
import Derived.Test.YtchdgmamkafcnaaPBase
namespace Go.Proofs.Ytchdgmamkafcnaa.Pure
open Go.RowKit Go.Proofs.Ytchdgmamkafcnaa.PFnExactLettersOfCalls Go.Proofs.YtchdgmamkafcnaaW.PrintWords Go.Proofs.YtchdgmamkafcnaaW.PrintLast Go.Proofs.YtchdgmamkafcnaaW.PrintMore Go.Proofs.Ytchdgmamkafcnaa.PB
set_option linter.unusedSimpArgs false
set_option linter.unusedVariables false
/-! calls: read, compared, marked -/
def toCalls (l : List S81) : List S79 := l.map fun c => ⟨c.f0, c.f1⟩
theorem toCalls_length (l : List S81) : (toCalls l).length = l.length := by simp [toCalls]

theorem szCallS_small (l : List S81) (h : l.length ≤ 1048576) : laws_szCallS.f l 1048576 = some (1048576 - (l.length : Int)) := by
  unfold laws_szCallS.f
  rw [w64 (by omega) (by omega), if_neg (by omega)]
theorem szCallS_great (l : List S81) (h : ¬ l.length ≤ 1048576) (h2 : l.length ≤ 9223372036854775807) : laws_szCallS.f l 1048576 = some (-1) := by
  unfold laws_szCallS.f
  rw [w64 (by omega) (by omega), if_pos (by omega)]

theorem toCallS_l0 (l : List S81) (h : l.length ≤ 1048576) : ∀ (d : Nat) (i : Int) (acc : List S79), 0 ≤ i → i + d = l.length → acc.length = l.length →
    (∀ j : Nat, (j : Int) < i → acc.getD j z79 = (toCalls l).getD j z79) → Ev (fun k => laws_toCallS.l0 k l acc i) (toCalls l) := by
  intro d
  induction d with
  | zero =>
    intro i acc h0 hi hl hacc
    refine ev_step (f := fun _ => some acc) (fun k => ?_) ?_
    · simp only [laws_toCallS.l0]; rw [if_neg (by omega)]
    · have : acc = toCalls l := ext_getD z79 (by rw [hl, toCalls_length]) (fun j hj => hacc j (by omega))
      rw [this]; exact ev_now _
  | succ d ih =>
    intro i acc h0 hi hl hacc
    refine ev_step (f := fun k => laws_toCallS.l0 k l (acc.set i.toNat ⟨(l.getD i.toNat z81).f0, (l.getD i.toNat z81).f1⟩) (i + 1)) (fun k => ?_) ?_
    · simp only [laws_toCallS.l0, laws_toCall.f, rd_T81, Option.bind_some]
      rw [if_pos (by omega), if_pos h0, if_pos (by omega), w64 (by omega) (by omega)]
    · refine ih (i + 1) _ (by omega) (by omega) (by simpa using hl) (fun j hj => ?_)
      rw [getD_set _ _ _ _ _ (by omega)]
      split
      · rename_i e
        subst e
        rw [toCalls, getD_map (fun c : S81 => (⟨c.f0, c.f1⟩ : S79)) l i.toNat z81 z79 (by omega)]
      · exact hacc j (by omega)
theorem toCallS_ev (l : List S81) (h : l.length ≤ 1048576) : Ev (fun k => laws_toCallS.f k l) (toCalls l) := by
  unfold laws_toCallS.f
  have h1 : (0 : Int) ≤ (l.length : Int) := by omega
  have h2 : ((l.length : Int)).toNat ≤ 17592186044416 := by omega
  simp only [if_pos h1, if_pos h2]
  exact toCallS_l0 l h l.length 0 _ (by omega) (by omega) (by simp) (fun j hj => by omega)

theorem eqCallS_l0 (a : List S79) (h : a.length ≤ 1048576) : ∀ (d : Nat) (i : Int), 0 ≤ i → i + d = a.length → Ev (fun k => laws_eqCallS.l0 k a a i) true := by
  intro d
  induction d with
  | zero =>
    intro i h0 hi
    refine ev_step (f := fun _ => some true) (fun k => ?_) (ev_now _)
    simp only [laws_eqCallS.l0]; rw [if_neg (by omega)]
  | succ d ih =>
    intro i h0 hi
    refine ev_step (f := fun k => laws_eqCallS.l0 k a a (i + 1)) (fun k => ?_) (ih _ (by omega) (by omega))
    simp only [laws_eqCallS.l0, laws_eqCall.f, if_true, Option.bind_some]
    rw [if_pos (by omega), if_pos h0, if_pos (by omega), w64 (by omega) (by omega)]
theorem eqCallS_ev (a : List S79) (h : a.length ≤ 1048576) : Ev (fun k => laws_eqCallS.f k a a) true := by
  unfold laws_eqCallS.f
  simp only [if_true]
  exact eqCallS_l0 a h a.length 0 (by omega) (by omega)

/-! calls: marked -/
def markedC (n : Nat) (m : Int) : List S79 := (List.range n).map fun i : Nat => ⟨m + 2 * (i : Int), m + 2 * (i : Int) + 1⟩
theorem markCallS_l0 (n : Nat) (m : Int) (hn : n ≤ 1048576) (hm : 0 ≤ m) (hm2 : m ≤ 1099511627776) : ∀ (d : Nat) (i : Int) (acc : List S79), 0 ≤ i → i + d = n → acc.length = n →
    (∀ j : Nat, (j : Int) < i → acc.getD j z79 = (markedC n m).getD j z79) → Ev (fun k => laws_markCallS.l0 k acc (m + 2 * i) i) (m + 2 * n, markedC n m) := by
  intro d
  induction d with
  | zero =>
    intro i acc h0 hi hl hacc
    refine ev_step (f := fun _ => some (m + 2 * i, acc)) (fun k => ?_) ?_
    · simp only [laws_markCallS.l0]; rw [if_neg (by omega)]
    · have e : acc = markedC n m := ext_getD z79 (by rw [hl]; simp [markedC]) (fun j hj => hacc j (by omega))
      rw [e, show m + 2 * i = m + 2 * n by omega]; exact ev_now _
  | succ d ih =>
    intro i acc h0 hi hl hacc
    refine ev_step (f := fun k => laws_markCallS.l0 k (acc.set i.toNat ⟨m + 2 * i, m + 2 * i + 1⟩) (m + 2 * (i + 1)) (i + 1)) (fun k => ?_) ?_
    · have hi' : i.toNat < acc.length := by omega
      simp only [laws_markCallS.l0, Option.bind_some, rd_T79]
      rw [if_pos (by omega), if_pos h0, w64 (by omega) (by omega), w64 (by omega) (by omega), w64 (by omega) (by omega), show m + 2 * i + 1 + 1 = m + 2 * (i + 1) by omega, List.set_set, getD_set _ _ _ _ _ hi']
      simp
    · refine ih (i + 1) _ (by omega) (by omega) (by simpa using hl) (fun j hj => ?_)
      rw [getD_set _ _ _ _ _ (by omega)]
      split
      · rename_i e
        subst e
        rw [markedC, getD_range_map _ _ _ _ (by omega), show ((i.toNat : Nat) : Int) = i by omega]
      · exact hacc j (by omega)
theorem markCallS_ev (l : List S79) (m : Int) (hn : l.length ≤ 1048576) (hm : 0 ≤ m) (hm2 : m ≤ 1099511627776) : Ev (fun k => laws_markCallS.f k l m) (m + 2 * (l.length : Int), markedC l.length m) := by
  unfold laws_markCallS.f
  have := markCallS_l0 l.length m hn hm hm2 l.length 0 l (by omega) (by omega) rfl (fun j hj => by omega)
  simpa using this

theorem eqLetterS_l0 (a : List S59) (h : a.length ≤ 1048576) : ∀ (d : Nat) (i : Int), 0 ≤ i → i + d = a.length → Ev (fun k => laws_eqLetterS.l0 k a a i) true := by
  intro d
  induction d with
  | zero =>
    intro i h0 hi
    refine ev_step (f := fun _ => some true) (fun k => ?_) (ev_now _)
    simp only [laws_eqLetterS.l0]; rw [if_neg (by omega)]
  | succ d ih =>
    intro i h0 hi
    refine ev_step (f := fun k => laws_eqLetterS.l0 k a a (i + 1)) (fun k => ?_) (ih _ (by omega) (by omega))
    simp only [laws_eqLetterS.l0, laws_eqLetter.f, if_true, Option.bind_some]
    rw [if_pos (by omega), if_pos h0, if_pos (by omega), w64 (by omega) (by omega)]
theorem eqLetterS_ev (a : List S59) (h : a.length ≤ 1048576) : Ev (fun k => laws_eqLetterS.f k a a) true := by
  unfold laws_eqLetterS.f
  simp only [if_true]
  exact eqLetterS_l0 a h a.length 0 (by omega) (by omega)

/-! letters: marked -/
def markedL (n : Nat) (m : Int) : List S59 := (List.range n).map fun i : Nat => ⟨m + 2 * (i : Int), m + 2 * (i : Int) + 1⟩
theorem markLetterS_l0 (n : Nat) (m : Int) (hn : n ≤ 1048576) (hm : 0 ≤ m) (hm2 : m ≤ 1099511627776) : ∀ (d : Nat) (i : Int) (acc : List S59), 0 ≤ i → i + d = n → acc.length = n →
    (∀ j : Nat, (j : Int) < i → acc.getD j z59 = (markedL n m).getD j z59) → Ev (fun k => laws_markLetterS.l0 k acc (m + 2 * i) i) (m + 2 * n, markedL n m) := by
  intro d
  induction d with
  | zero =>
    intro i acc h0 hi hl hacc
    refine ev_step (f := fun _ => some (m + 2 * i, acc)) (fun k => ?_) ?_
    · simp only [laws_markLetterS.l0]; rw [if_neg (by omega)]
    · have e : acc = markedL n m := ext_getD z59 (by rw [hl]; simp [markedL]) (fun j hj => hacc j (by omega))
      rw [e, show m + 2 * i = m + 2 * n by omega]; exact ev_now _
  | succ d ih =>
    intro i acc h0 hi hl hacc
    refine ev_step (f := fun k => laws_markLetterS.l0 k (acc.set i.toNat ⟨m + 2 * i, m + 2 * i + 1⟩) (m + 2 * (i + 1)) (i + 1)) (fun k => ?_) ?_
    · have hi' : i.toNat < acc.length := by omega
      simp only [laws_markLetterS.l0, Option.bind_some, rd_T59]
      rw [if_pos (by omega), if_pos h0, w64 (by omega) (by omega), w64 (by omega) (by omega), w64 (by omega) (by omega), show m + 2 * i + 1 + 1 = m + 2 * (i + 1) by omega, List.set_set, getD_set _ _ _ _ _ hi']
      simp
    · refine ih (i + 1) _ (by omega) (by omega) (by simpa using hl) (fun j hj => ?_)
      rw [getD_set _ _ _ _ _ (by omega)]
      split
      · rename_i e
        subst e
        rw [markedL, getD_range_map _ _ _ _ (by omega), show ((i.toNat : Nat) : Int) = i by omega]
      · exact hacc j (by omega)
theorem markLetterS_ev (l : List S59) (m : Int) (hn : l.length ≤ 1048576) (hm : 0 ≤ m) (hm2 : m ≤ 1099511627776) : Ev (fun k => laws_markLetterS.f k l m) (m + 2 * (l.length : Int), markedL l.length m) := by
  unfold laws_markLetterS.f
  have := markLetterS_l0 l.length m hn hm hm2 l.length 0 l (by omega) (by omega) rfl (fun j hj => by omega)
  simpa using this

/-! letters: held -/
theorem heldLetterS_l0 (n : Nat) (m : Int) (hn : n ≤ 1048576) (hm : 0 ≤ m) (hm2 : m ≤ 1099511627776) : ∀ (d : Nat) (i : Int), 0 ≤ i → i + d = n → Ev (fun k => laws_heldLetterS.l0 k (markedL n m) (m + 2 * i) i) (m + 2 * n) := by
  intro d
  have hl : (markedL n m).length = n := by simp [markedL]
  induction d with
  | zero =>
    intro i h0 hi
    refine ev_step (f := fun _ => some (m + 2 * i)) (fun k => ?_) ?_
    · simp only [laws_heldLetterS.l0]; rw [if_neg (by omega)]
    · rw [show m + 2 * i = m + 2 * n by omega]; exact ev_now _
  | succ d ih =>
    intro i h0 hi
    refine ev_step (f := fun k => laws_heldLetterS.l0 k (markedL n m) (m + 2 * (i + 1)) (i + 1)) (fun k => ?_) (ih _ (by omega) (by omega))
    have e : rd_T59 (markedL n m) i = ⟨m + 2 * i, m + 2 * i + 1⟩ := by
      show (markedL n m).getD i.toNat z59 = _
      rw [markedL, getD_range_map _ _ _ _ (by omega), show ((i.toNat : Nat) : Int) = i by omega]
    simp only [laws_heldLetterS.l0, e, if_true]
    rw [if_pos (by omega), if_pos h0, w64 (by omega) (by omega), w64 (by omega) (by omega), w64 (by omega) (by omega), if_pos rfl, show m + 2 * i + 1 + 1 = m + 2 * (i + 1) by omega]
theorem heldLetterS_ev (n : Nat) (m : Int) (hn : n ≤ 1048576) (hm : 0 ≤ m) (hm2 : m ≤ 1099511627776) : Ev (fun k => laws_heldLetterS.f k (markedL n m) m) (m + 2 * (n : Int)) := by
  unfold laws_heldLetterS.f
  have := heldLetterS_l0 n m hn hm hm2 n 0 (by omega) (by omega)
  simpa using this

/-! spec.caGood -/
theorem caFriends_f (n : Int) : spec_caFriends.f n = some (decide (1 ≤ n) && decide (n ≤ 10)) := by
  unfold spec_caFriends.f spec_l1In.f
  by_cases h1 : 1 ≤ n <;> by_cases h2 : n ≤ 10 <;> simp [h1, h2]
theorem caCall_f (n a b : Int) (h1 : 1 ≤ n) (h2 : n ≤ 10) : spec_caCall.f n a b = some (isCallB n a b) := by
  unfold spec_caCall.f spec_l1In.f isCallB
  rw [w64 (by omega) (by omega)]
  by_cases g1 : 0 ≤ a
  · by_cases g2 : a ≤ n - 1
    · rw [w64 (by omega) (by omega)]
      by_cases g3 : a + 1 ≤ b <;> by_cases g4 : b ≤ n - 1
      · have e1 : a < b := by omega
        have e2 : b < n := by omega
        simp [g1, g2, g3, g4, e1, e2]
      · have e1 : a < b := by omega
        have e2 : ¬ b < n := by omega
        simp [g1, g2, g3, g4, e1, e2]
      · have e1 : ¬ a < b := by omega
        simp [g1, g2, g3, e1]
      · have e1 : ¬ a < b := by omega
        simp [g1, g2, g3, e1]
    · by_cases g3 : a < b
      · have e2 : ¬ b < n := by omega
        simp [g1, g2, e2]
      · simp [g1, g2, g3]
  · simp [g1]
theorem caGood_l0 (n : Int) (l : List S79) (h : l.length ≤ 1048576) (h1 : 1 ≤ n) (h2 : n ≤ 10) : ∀ (d : Nat) (i : Int), 0 ≤ i → i + d = l.length →
    Ev (fun k => spec_caGood.l0 k n l (l.length : Int) i) ((l.drop i.toNat).all fun c => isCallB n c.f0 c.f1) := by
  intro d
  induction d with
  | zero =>
    intro i h0 hi
    refine ev_step (f := fun _ => some true) (fun k => ?_) ?_
    · simp only [spec_caGood.l0]; rw [if_neg (by omega)]
    · rw [List.drop_eq_nil_of_le (by omega)]; exact ev_now _
  | succ d ih =>
    intro i h0 hi
    have hd := drop_at l i.toNat z79 (by omega)
    cases hq : isCallB n (l.getD i.toNat z79).f0 (l.getD i.toNat z79).f1 with
    | true =>
      refine ev_step (f := fun k => spec_caGood.l0 k n l (l.length : Int) (i + 1)) (fun k => ?_) ?_
      · simp only [spec_caGood.l0, rd_T79, caCall_f n _ _ h1 h2, Option.bind_some, hq, if_true]
        rw [if_pos (by omega), if_pos h0, if_pos (by omega), w64 (by omega) (by omega)]
      · have := ih (i + 1) (by omega) (by omega)
        rw [hd, List.all_cons, hq, Bool.true_and]
        rwa [show (i + 1).toNat = i.toNat + 1 by omega] at this
    | false =>
      refine ev_step (f := fun _ => some false) (fun k => ?_) ?_
      · simp only [spec_caGood.l0, rd_T79, caCall_f n _ _ h1 h2, Option.bind_some, hq]
        rw [if_pos (by omega), if_pos h0, if_pos (by omega), if_neg (by simp)]
      · rw [hd, List.all_cons, hq, Bool.false_and]; exact ev_now _
theorem caGood_ev (n : Int) (l : List S79) (h : l.length ≤ 1048576) : Ev (fun k => spec_caGood.f k n l) (areCallsB n l) := by
  unfold spec_caGood.f
  simp only [caFriends_f, Option.bind_some]
  by_cases h1 : 1 ≤ n ∧ n ≤ 10
  · obtain ⟨h1, h2⟩ := h1
    by_cases h3 : l.length ≤ 60
    · have e : areCallsB n l = l.all fun c => isCallB n c.f0 c.f1 := by simp [areCallsB, h1, h2, h3]
      rw [e]
      have e2 : decide ((l.length : Int) > 60) = false := by rw [decide_eq_false_iff_not]; omega
      simp only [h1, h2, decide_true, Bool.and_self, if_true, e2]
      refine ev_step (f := fun k => spec_caGood.l0 k n l (l.length : Int) 0) (fun k => by simp [spec_caGood.j0]) ?_
      simpa using caGood_l0 n l h h1 h2 l.length 0 (by omega) (by omega)
    · have e : areCallsB n l = false := by simp [areCallsB, h3]
      rw [e]
      have e2 : decide ((l.length : Int) > 60) = true := by rw [decide_eq_true_eq]; omega
      simp only [h1, h2, decide_true, Bool.and_self, if_true, e2]
      exact ev_step (f := fun _ => some false) (fun k => by simp [spec_caGood.j0]) (ev_now _)
  · have e : areCallsB n l = false := by rw [Bool.eq_false_iff]; intro hh; simp [areCallsB] at hh; exact h1 ⟨hh.1, hh.2.1⟩
    have e1 : (decide (1 ≤ n) && decide (n ≤ 10)) = false := by rw [Bool.eq_false_iff]; simpa using h1
    rw [e]
    simp only [e1]
    exact ev_step (f := fun _ => some false) (fun k => by simp [spec_caGood.j0]) (ev_now _)
theorem areCallsB_true {n : Int} {cs : List S79} (h : areCallsB n cs = true) : 1 ≤ n ∧ n ≤ 10 ∧ cs.length ≤ 60 ∧ ∀ c ∈ cs, isCallB n c.f0 c.f1 = true := by
  simp [areCallsB] at h
  exact h


def bothP (c : S79) : List S59 := [⟨c.f0, c.f1⟩, ⟨c.f1, c.f0⟩]
def resP (n : Int) (cs : List S79) : List S59 × Bool := if areCallsB n cs = true then (if cs.length ≤ 30 then (cs.flatMap bothP, true) else ([], false)) else ([], false)
theorem both_len (cs : List S79) : (cs.flatMap bothP).length = 2 * cs.length := by
  induction cs with
  | nil => rfl
  | cons c cs ih => rw [List.flatMap_cons, List.length_append, ih, List.length_cons]; show 2 + _ = _; omega
theorem both_take (cs : List S79) (i : Nat) (h : i < cs.length) : (cs.take (i + 1)).flatMap bothP = (cs.take i).flatMap bothP ++ bothP (cs.getD i z79) := by
  rw [take_at cs i z79 h, List.flatMap_append]
  simp
theorem resP_length (n : Int) (cs : List S79) (h : cs.length ≤ 1048576) : (resP n cs).1.length ≤ 1048576 := by
  unfold resP
  split
  · split
    · rw [both_len]; omega
    · simp
  · simp
theorem spec_l0 (cs : List S79) (h : cs.length ≤ 60) : ∀ (d : Nat) (i : Nat), i + d = cs.length →
    Ev (fun k => spec_LettersOfCalls.l0 k ((cs.take i).flatMap bothP) cs (cs.length : Int) (i : Int)) (cs.flatMap bothP, true) := by
  intro d
  induction d with
  | zero =>
    intro i hi
    refine ev_step (f := fun _ => some ((cs.take i).flatMap bothP, true)) (fun k => ?_) ?_
    · simp only [spec_LettersOfCalls.l0]; rw [if_neg (by omega)]
    · rw [List.take_of_length_le (by omega)]; exact ev_now _
  | succ d ih =>
    intro i hi
    refine ev_step (f := fun k => spec_LettersOfCalls.l0 k ((cs.take (i + 1)).flatMap bothP) cs (cs.length : Int) ((i + 1 : Nat) : Int)) (fun k => ?_) (ih (i + 1) (by omega))
    have hl := both_len (cs.take i)
    rw [List.length_take] at hl
    rw [both_take cs i (by omega)]
    simp only [spec_LettersOfCalls.l0, Option.bind_some, List.length_cons, List.length_nil]
    rw [if_pos (by omega), if_pos (by omega), if_pos (by omega), if_pos (by omega), w64 (by omega) (by omega)]
    rfl
theorem impl_l0 (cs : List S79) (h : cs.length ≤ 60) : ∀ (d : Nat) (i : Nat), i + d = cs.length →
    Ev (fun k => impl_LettersOfCalls.l0 k ((cs.take i).flatMap bothP) cs (cs.length : Int) (i : Int)) (cs.flatMap bothP, true) := by
  intro d
  induction d with
  | zero =>
    intro i hi
    refine ev_step (f := fun _ => some ((cs.take i).flatMap bothP, true)) (fun k => ?_) ?_
    · simp only [impl_LettersOfCalls.l0]; rw [if_neg (by omega)]
    · rw [List.take_of_length_le (by omega)]; exact ev_now _
  | succ d ih =>
    intro i hi
    refine ev_step (f := fun k => impl_LettersOfCalls.l0 k ((cs.take (i + 1)).flatMap bothP) cs (cs.length : Int) ((i + 1 : Nat) : Int)) (fun k => ?_) (ih (i + 1) (by omega))
    have hl := both_len (cs.take i)
    rw [List.length_take] at hl
    rw [both_take cs i (by omega)]
    simp only [impl_LettersOfCalls.l0, Option.bind_some, List.length_cons, List.length_nil]
    rw [if_pos (by omega), if_pos (by omega), if_pos (by omega), if_pos (by omega), w64 (by omega) (by omega)]
    rfl
theorem two60 (cs : List S79) (h : cs.length ≤ 60) : decide ((wrap64 (2 * (cs.length : Int))) > 60) = !decide (cs.length ≤ 30) := by
  rw [w64 (by omega) (by omega)]
  by_cases g : cs.length ≤ 30
  · have : ¬ 2 * (cs.length : Int) > 60 := by omega
    simp [g, this]
  · have : 2 * (cs.length : Int) > 60 := by omega
    simp [g, this]
theorem spec_ev (n : Int) (cs : List S79) (h : cs.length ≤ 1048576) : Ev (fun k => spec_LettersOfCalls.f k n cs) (resP n cs) := by
  unfold spec_LettersOfCalls.f resP
  refine Ev.bind (caGood_ev n cs h) ?_
  cases hg : areCallsB n cs with
  | false =>
    simp only [Bool.false_eq_true, if_false]
    exact Ev.step (fun k => by simp only [spec_LettersOfCalls.j0, if_true] <;> exact rfl) (ev_now _)
  | true =>
    obtain ⟨h1, h2, h3, h4⟩ := areCallsB_true hg
    simp only [if_true, two60 cs h3]
    by_cases ha : cs.length ≤ 30
    · simp only [ha, decide_true, Bool.not_true, if_true]
      refine Ev.step (fun k => by simp only [spec_LettersOfCalls.j0, Bool.false_eq_true, if_false] <;> exact rfl) ?_
      exact spec_l0 cs h3 cs.length 0 (by omega)
    · simp only [ha, decide_false, Bool.not_false, if_false]
      exact Ev.step (fun k => by simp only [spec_LettersOfCalls.j0, if_true] <;> exact rfl) (ev_now _)
theorem impl_ev (n : Int) (cs : List S79) (h : cs.length ≤ 1048576) : Ev (fun k => impl_LettersOfCalls.f k n cs) (resP n cs) := by
  unfold impl_LettersOfCalls.f resP impl_AreCalls.f
  simp only [Option.bind_some]
  cases hg : areCallsB n cs with
  | false =>
    simp only [Bool.false_eq_true, if_false]
    exact Ev.step (fun k => by simp only [impl_LettersOfCalls.j0, if_true] <;> exact rfl) (ev_now _)
  | true =>
    obtain ⟨h1, h2, h3, h4⟩ := areCallsB_true hg
    simp only [if_true, two60 cs h3]
    by_cases ha : cs.length ≤ 30
    · simp only [ha, decide_true, Bool.not_true, if_true]
      refine Ev.step (fun k => by simp only [impl_LettersOfCalls.j0, Bool.false_eq_true, if_false] <;> exact rfl) ?_
      exact impl_l0 cs h3 cs.length 0 (by omega)
    · simp only [ha, decide_false, Bool.not_false, if_false]
      exact Ev.step (fun k => by simp only [impl_LettersOfCalls.j0, if_true] <;> exact rfl) (ev_now _)
theorem FnExactLettersOfCalls : ∀ (a0 : Int) (l1 : (List S81)), (Lit.int .i64 a0).wf = true → l1.length ≤ 9223372036854775807 → ∃ k, laws_FnExactLettersOfCalls.f k a0 l1 = some true := by
  intro a0 l1 w0 hl1
  apply Ev.rounds
  unfold laws_FnExactLettersOfCalls.f
  by_cases h1 : l1.length ≤ 1048576
  · simp only [szCallS_small l1 h1, Option.bind_some]
    have h0 : ¬ (1048576 - (l1.length : Int)) < 0 := by omega
    simp only [if_neg h0]
    have g1 : (toCalls l1).length ≤ 1048576 := by rw [toCalls_length]; exact h1
    refine Ev.bind (toCallS_ev l1 h1) ?_
    refine Ev.bind (spec_ev a0 (toCalls l1) g1) ?_
    refine Ev.bind (toCallS_ev l1 h1) ?_
    refine Ev.bind (impl_ev a0 (toCalls l1) g1) ?_
    have hr : (resP a0 (toCalls l1)).1.length ≤ 1048576 := resP_length a0 (toCalls l1) g1
    have hm2 : ¬ (1 + 2 * (((resP a0 (toCalls l1)).1.length : Nat) : Int)) < 0 := by omega
    refine Ev.bind (eqLetterS_ev _ hr) ?_
    simp only [bne_self_eq_false, Bool.false_eq_true, if_false, if_true]
    refine Ev.step (fun k => by simp only [laws_FnExactLettersOfCalls.j0, Bool.false_eq_true, if_false] <;> exact rfl) ?_
    refine Ev.bind (toCallS_ev l1 h1) ?_
    refine Ev.bind (eqCallS_ev _ g1) ?_
    simp only [if_true]
    refine Ev.bind (markCallS_ev _ 1 g1 (by omega) (by omega)) ?_
    have hm11 : ¬ (1 + 2 * (((toCalls l1).length : Nat) : Int)) < 0 := by omega
    simp only [if_neg hm11]
    refine Ev.bind (eqLetterS_ev _ hr) ?_
    simp only [bne_self_eq_false, Bool.false_eq_true, if_false, if_true]
    refine Ev.step (fun k => by simp only [laws_FnExactLettersOfCalls.j1, Bool.false_eq_true, if_false] <;> exact rfl) ?_
    refine Ev.bind (markLetterS_ev _ 1 hr (by omega) (by omega)) ?_
    refine Ev.bind (heldLetterS_ev _ 1 hr (by omega) (by omega)) ?_
    simp only [if_neg hm2, if_true]
    refine Ev.bind (toCallS_ev l1 h1) ?_
    refine Ev.bind (impl_ev a0 (toCalls l1) g1) ?_
    refine Ev.bind (eqLetterS_ev _ hr) ?_
    simp only [bne_self_eq_false, Bool.false_eq_true, if_false, if_true]
    refine Ev.step (fun k => by simp only [laws_FnExactLettersOfCalls.j2, Bool.false_eq_true, if_false] <;> exact rfl) ?_
    refine Ev.bind (heldLetterS_ev _ 1 hr (by omega) (by omega)) ?_
    simp only [if_neg hm2, if_true]
    exact ev_now _
  · simp only [szCallS_great l1 h1 hl1, Option.bind_some]
    exact ev_now _

end Go.Proofs.Ytchdgmamkafcnaa.Pure
