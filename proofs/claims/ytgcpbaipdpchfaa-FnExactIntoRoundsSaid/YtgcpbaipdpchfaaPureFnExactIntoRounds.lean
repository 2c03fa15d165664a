/- The pure side of FnExactIntoRounds: program and reference agree at every argument. No condition beside what an argument is. -/
import Derived.Test.YtgcpbaipdpchfaaPFnExactIntoRoundsx18
import Derived.Test.YtgcpbaipdpchfaaPBase
import Derived.Test.YtgcpbaipdpchfaaHBits
namespace Go.Proofs.Ytgcpbaipdpchfaa.Pure
open Go.RowKit Go.Proofs.Ytgcpbaipdpchfaa.PFnExactIntoRounds Go.Proofs.YtgcpbaipdpchfaaW.PrintWords Go.Proofs.YtgcpbaipdpchfaaW.PrintLast Go.Proofs.YtgcpbaipdpchfaaW.PrintMore Go.Proofs.Ytgcpbaipdpchfaa.PB
set_option linter.unusedSimpArgs false
set_option linter.unusedVariables false
/-! calls: read, compared, marked -/
def toCalls (l : List S63) : List S54 := l.map fun c => ⟨c.f0, c.f1⟩
theorem toCalls_length (l : List S63) : (toCalls l).length = l.length := by simp [toCalls]

theorem szCallS_small (l : List S63) (h : l.length ≤ 1048576) : laws_szCallS.f l 1048576 = some (1048576 - (l.length : Int)) := by
  unfold laws_szCallS.f
  rw [w64 (by omega) (by omega), if_neg (by omega)]
theorem szCallS_great (l : List S63) (h : ¬ l.length ≤ 1048576) (h2 : l.length ≤ 9223372036854775807) : laws_szCallS.f l 1048576 = some (-1) := by
  unfold laws_szCallS.f
  rw [w64 (by omega) (by omega), if_pos (by omega)]

theorem toCallS_l0 (l : List S63) (h : l.length ≤ 1048576) : ∀ (d : Nat) (i : Int) (acc : List S54), 0 ≤ i → i + d = l.length → acc.length = l.length →
    (∀ j : Nat, (j : Int) < i → acc.getD j z54 = (toCalls l).getD j z54) → Ev (fun k => laws_toCallS.l0 k l acc i) (toCalls l) := by
  intro d
  induction d with
  | zero =>
    intro i acc h0 hi hl hacc
    refine ev_step (f := fun _ => some acc) (fun k => ?_) ?_
    · simp only [laws_toCallS.l0]; rw [if_neg (by omega)]
    · have : acc = toCalls l := ext_getD z54 (by rw [hl, toCalls_length]) (fun j hj => hacc j (by omega))
      rw [this]; exact ev_now _
  | succ d ih =>
    intro i acc h0 hi hl hacc
    refine ev_step (f := fun k => laws_toCallS.l0 k l (acc.set i.toNat ⟨(l.getD i.toNat z63).f0, (l.getD i.toNat z63).f1⟩) (i + 1)) (fun k => ?_) ?_
    · simp only [laws_toCallS.l0, laws_toCall.f, rd_T63, Option.bind_some]
      rw [if_pos (by omega), if_pos h0, if_pos (by omega), w64 (by omega) (by omega)]
    · refine ih (i + 1) _ (by omega) (by omega) (by simpa using hl) (fun j hj => ?_)
      rw [getD_set _ _ _ _ _ (by omega)]
      split
      · rename_i e
        subst e
        rw [toCalls, getD_map (fun c : S63 => (⟨c.f0, c.f1⟩ : S54)) l i.toNat z63 z54 (by omega)]
      · exact hacc j (by omega)
theorem toCallS_ev (l : List S63) (h : l.length ≤ 1048576) : Ev (fun k => laws_toCallS.f k l) (toCalls l) := by
  unfold laws_toCallS.f
  have h1 : (0 : Int) ≤ (l.length : Int) := by omega
  have h2 : ((l.length : Int)).toNat ≤ 17592186044416 := by omega
  simp only [if_pos h1, if_pos h2]
  exact toCallS_l0 l h l.length 0 _ (by omega) (by omega) (by simp) (fun j hj => by omega)

theorem eqCallS_l0 (a : List S54) (h : a.length ≤ 1048576) : ∀ (d : Nat) (i : Int), 0 ≤ i → i + d = a.length → Ev (fun k => laws_eqCallS.l0 k a a i) true := by
  intro d
  induction d with
  | zero =>
    intro i h0 hi
    refine ev_step (f := fun _ => some true) (fun k => ?_) (ev_now _)
    simp only [laws_eqCallS.l0]; rw [if_neg (by omega)]
  | succ d ih =>
    intro i h0 hi
    refine ev_step (f := fun k => laws_eqCallS.l0 k a a (i + 1)) (fun k => ?_) (ih _ (by omega) (by omega))
    simp only [laws_eqCallS.l0, laws_eqCall.f, if_true, Option.bind_some]
    rw [if_pos (by omega), if_pos h0, if_pos (by omega), w64 (by omega) (by omega)]
theorem eqCallS_ev (a : List S54) (h : a.length ≤ 1048576) : Ev (fun k => laws_eqCallS.f k a a) true := by
  unfold laws_eqCallS.f
  simp only [if_true]
  exact eqCallS_l0 a h a.length 0 (by omega) (by omega)

/-! calls: marked -/
def markedC (n : Nat) (m : Int) : List S54 := (List.range n).map fun i : Nat => ⟨m + 2 * (i : Int), m + 2 * (i : Int) + 1⟩
theorem markCallS_l0 (n : Nat) (m : Int) (hn : n ≤ 1048576) (hm : 0 ≤ m) (hm2 : m ≤ 1099511627776) : ∀ (d : Nat) (i : Int) (acc : List S54), 0 ≤ i → i + d = n → acc.length = n →
    (∀ j : Nat, (j : Int) < i → acc.getD j z54 = (markedC n m).getD j z54) → Ev (fun k => laws_markCallS.l0 k acc (m + 2 * i) i) (m + 2 * n, markedC n m) := by
  intro d
  induction d with
  | zero =>
    intro i acc h0 hi hl hacc
    refine ev_step (f := fun _ => some (m + 2 * i, acc)) (fun k => ?_) ?_
    · simp only [laws_markCallS.l0]; rw [if_neg (by omega)]
    · have e : acc = markedC n m := ext_getD z54 (by rw [hl]; simp [markedC]) (fun j hj => hacc j (by omega))
      rw [e, show m + 2 * i = m + 2 * n by omega]; exact ev_now _
  | succ d ih =>
    intro i acc h0 hi hl hacc
    refine ev_step (f := fun k => laws_markCallS.l0 k (acc.set i.toNat ⟨m + 2 * i, m + 2 * i + 1⟩) (m + 2 * (i + 1)) (i + 1)) (fun k => ?_) ?_
    · have hi' : i.toNat < acc.length := by omega
      simp only [laws_markCallS.l0, Option.bind_some, rd_T54]
      rw [if_pos (by omega), if_pos h0, w64 (by omega) (by omega), w64 (by omega) (by omega), w64 (by omega) (by omega), show m + 2 * i + 1 + 1 = m + 2 * (i + 1) by omega, List.set_set, getD_set _ _ _ _ _ hi']
      simp
    · refine ih (i + 1) _ (by omega) (by omega) (by simpa using hl) (fun j hj => ?_)
      rw [getD_set _ _ _ _ _ (by omega)]
      split
      · rename_i e
        subst e
        rw [markedC, getD_range_map _ _ _ _ (by omega), show ((i.toNat : Nat) : Int) = i by omega]
      · exact hacc j (by omega)
theorem markCallS_ev (l : List S54) (m : Int) (hn : l.length ≤ 1048576) (hm : 0 ≤ m) (hm2 : m ≤ 1099511627776) : Ev (fun k => laws_markCallS.f k l m) (m + 2 * (l.length : Int), markedC l.length m) := by
  unfold laws_markCallS.f
  have := markCallS_l0 l.length m hn hm hm2 l.length 0 l (by omega) (by omega) rfl (fun j hj => by omega)
  simpa using this

/-! calls: held -/
theorem heldCallS_l0 (n : Nat) (m : Int) (hn : n ≤ 1048576) (hm : 0 ≤ m) (hm2 : m ≤ 1099511627776) : ∀ (d : Nat) (i : Int), 0 ≤ i → i + d = n → Ev (fun k => laws_heldCallS.l0 k (markedC n m) (m + 2 * i) i) (m + 2 * n) := by
  intro d
  have hl : (markedC n m).length = n := by simp [markedC]
  induction d with
  | zero =>
    intro i h0 hi
    refine ev_step (f := fun _ => some (m + 2 * i)) (fun k => ?_) ?_
    · simp only [laws_heldCallS.l0]; rw [if_neg (by omega)]
    · rw [show m + 2 * i = m + 2 * n by omega]; exact ev_now _
  | succ d ih =>
    intro i h0 hi
    refine ev_step (f := fun k => laws_heldCallS.l0 k (markedC n m) (m + 2 * (i + 1)) (i + 1)) (fun k => ?_) (ih _ (by omega) (by omega))
    have e : rd_T54 (markedC n m) i = ⟨m + 2 * i, m + 2 * i + 1⟩ := by
      show (markedC n m).getD i.toNat z54 = _
      rw [markedC, getD_range_map _ _ _ _ (by omega), show ((i.toNat : Nat) : Int) = i by omega]
    simp only [laws_heldCallS.l0, e, if_true]
    rw [if_pos (by omega), if_pos h0, w64 (by omega) (by omega), w64 (by omega) (by omega), w64 (by omega) (by omega), if_pos rfl, show m + 2 * i + 1 + 1 = m + 2 * (i + 1) by omega]
theorem heldCallS_ev (n : Nat) (m : Int) (hn : n ≤ 1048576) (hm : 0 ≤ m) (hm2 : m ≤ 1099511627776) : Ev (fun k => laws_heldCallS.f k (markedC n m) m) (m + 2 * (n : Int)) := by
  unfold laws_heldCallS.f
  have := heldCallS_l0 n m hn hm hm2 n 0 (by omega) (by omega)
  simpa using this

/-! spec.caGood -/
theorem caFriends_f (n : Int) : spec_caFriends.f n = some (decide (1 ≤ n) && decide (n ≤ 10)) := by
  unfold spec_caFriends.f spec_l1In.f
  by_cases h1 : 1 ≤ n <;> by_cases h2 : n ≤ 10 <;> simp [h1, h2]
theorem caCall_f (n a b : Int) (h1 : 1 ≤ n) (h2 : n ≤ 10) : spec_caCall.f n a b = some (isCallB n a b) := by
  unfold spec_caCall.f spec_l1In.f isCallB
  rw [w64 (by omega) (by omega)]
  by_cases g1 : 0 ≤ a
  · by_cases g2 : a ≤ n - 1
    · rw [w64 (by omega) (by omega)]
      by_cases g3 : a + 1 ≤ b <;> by_cases g4 : b ≤ n - 1
      · have e1 : a < b := by omega
        have e2 : b < n := by omega
        simp [g1, g2, g3, g4, e1, e2]
      · have e1 : a < b := by omega
        have e2 : ¬ b < n := by omega
        simp [g1, g2, g3, g4, e1, e2]
      · have e1 : ¬ a < b := by omega
        simp [g1, g2, g3, e1]
      · have e1 : ¬ a < b := by omega
        simp [g1, g2, g3, e1]
    · by_cases g3 : a < b
      · have e2 : ¬ b < n := by omega
        simp [g1, g2, e2]
      · simp [g1, g2, g3]
  · simp [g1]
theorem caGood_l0 (n : Int) (l : List S54) (h : l.length ≤ 1048576) (h1 : 1 ≤ n) (h2 : n ≤ 10) : ∀ (d : Nat) (i : Int), 0 ≤ i → i + d = l.length →
    Ev (fun k => spec_caGood.l0 k n l (l.length : Int) i) ((l.drop i.toNat).all fun c => isCallB n c.f0 c.f1) := by
  intro d
  induction d with
  | zero =>
    intro i h0 hi
    refine ev_step (f := fun _ => some true) (fun k => ?_) ?_
    · simp only [spec_caGood.l0]; rw [if_neg (by omega)]
    · rw [List.drop_eq_nil_of_le (by omega)]; exact ev_now _
  | succ d ih =>
    intro i h0 hi
    have hd := drop_at l i.toNat z54 (by omega)
    cases hq : isCallB n (l.getD i.toNat z54).f0 (l.getD i.toNat z54).f1 with
    | true =>
      refine ev_step (f := fun k => spec_caGood.l0 k n l (l.length : Int) (i + 1)) (fun k => ?_) ?_
      · simp only [spec_caGood.l0, rd_T54, caCall_f n _ _ h1 h2, Option.bind_some, hq, if_true]
        rw [if_pos (by omega), if_pos h0, if_pos (by omega), w64 (by omega) (by omega)]
      · have := ih (i + 1) (by omega) (by omega)
        rw [hd, List.all_cons, hq, Bool.true_and]
        rwa [show (i + 1).toNat = i.toNat + 1 by omega] at this
    | false =>
      refine ev_step (f := fun _ => some false) (fun k => ?_) ?_
      · simp only [spec_caGood.l0, rd_T54, caCall_f n _ _ h1 h2, Option.bind_some, hq]
        rw [if_pos (by omega), if_pos h0, if_pos (by omega), if_neg (by simp)]
      · rw [hd, List.all_cons, hq, Bool.false_and]; exact ev_now _
theorem caGood_ev (n : Int) (l : List S54) (h : l.length ≤ 1048576) : Ev (fun k => spec_caGood.f k n l) (areCallsB n l) := by
  unfold spec_caGood.f
  simp only [caFriends_f, Option.bind_some]
  by_cases h1 : 1 ≤ n ∧ n ≤ 10
  · obtain ⟨h1, h2⟩ := h1
    by_cases h3 : l.length ≤ 60
    · have e : areCallsB n l = l.all fun c => isCallB n c.f0 c.f1 := by simp [areCallsB, h1, h2, h3]
      rw [e]
      have e2 : decide ((l.length : Int) > 60) = false := by rw [decide_eq_false_iff_not]; omega
      simp only [h1, h2, decide_true, Bool.and_self, if_true, e2]
      refine ev_step (f := fun k => spec_caGood.l0 k n l (l.length : Int) 0) (fun k => by simp [spec_caGood.j0]) ?_
      simpa using caGood_l0 n l h h1 h2 l.length 0 (by omega) (by omega)
    · have e : areCallsB n l = false := by simp [areCallsB, h3]
      rw [e]
      have e2 : decide ((l.length : Int) > 60) = true := by rw [decide_eq_true_eq]; omega
      simp only [h1, h2, decide_true, Bool.and_self, if_true, e2]
      exact ev_step (f := fun _ => some false) (fun k => by simp [spec_caGood.j0]) (ev_now _)
  · have e : areCallsB n l = false := by rw [Bool.eq_false_iff]; intro hh; simp [areCallsB] at hh; exact h1 ⟨hh.1, hh.2.1⟩
    have e1 : (decide (1 ≤ n) && decide (n ≤ 10)) = false := by rw [Bool.eq_false_iff]; simpa using h1
    rw [e]
    simp only [e1]
    exact ev_step (f := fun _ => some false) (fun k => by simp [spec_caGood.j0]) (ev_now _)
theorem areCallsB_true {n : Int} {cs : List S54} (h : areCallsB n cs = true) : 1 ≤ n ∧ n ≤ 10 ∧ cs.length ≤ 60 ∧ ∀ c ∈ cs, isCallB n c.f0 c.f1 = true := by
  simp [areCallsB] at h
  exact h

/-! rows of rows: compared, marked -/
def totC : List (List S54) → Int
  | [] => 0
  | r :: rs => 2 * (r.length : Int) + totC rs
def markedRC : List (List S54) → Int → List (List S54)
  | [], _ => []
  | r :: rs, m => markedC r.length m :: markedRC rs (m + 2 * (r.length : Int))
def RowsC (l : List (List S54)) : Prop := l.length ≤ 1048576 ∧ ∀ r ∈ l, r.length ≤ 1048576
theorem totC_nonneg : ∀ (l : List (List S54)), 0 ≤ totC l
  | [] => Int.le_refl _
  | r :: rs => by have := totC_nonneg rs; simp only [totC]; omega
theorem totC_le (b : Nat) : ∀ (l : List (List S54)), (∀ r ∈ l, r.length ≤ b) → totC l ≤ 2 * (b : Int) * l.length
  | [], _ => by simp [totC]
  | r :: rs, h => by
    have h1 := totC_le b rs (fun x hx => h x (List.mem_cons_of_mem _ hx))
    have h2 := h r (List.mem_cons_self)
    have e : 2 * (b : Int) * ((r :: rs).length : Nat) = 2 * (b : Int) * (rs.length : Nat) + 2 * (b : Int) := by
      rw [List.length_cons, Int.natCast_succ, Int.mul_add, Int.mul_one]
    rw [e]
    simp only [totC]
    omega
theorem eqCallSS_l0 : ∀ (rest done : List (List S54)), done.length + rest.length ≤ 1048576 → (∀ r ∈ rest, r.length ≤ 1048576) →
    Ev (fun k => laws_eqCallSS.l0 k (done ++ rest) (done ++ rest) (done.length : Int)) true
  | [], done, h, _ => by
    refine ev_step (f := fun _ => some true) (fun k => ?_) (ev_now _)
    simp only [laws_eqCallSS.l0]
    rw [if_neg (by simp)]
  | r :: rest, done, h, hr => by
    simp only [List.length_cons] at h
    have e : rd_L2 (done ++ r :: rest) (done.length : Int) = r := by
      show (done ++ r :: rest).getD ((done.length : Int)).toNat [] = r
      rw [Int.toNat_natCast, getD_len]
    refine ev_step (f := fun k => (laws_eqCallS.f k r r).bind fun t => if t = true then laws_eqCallSS.l0 k (done ++ r :: rest) (done ++ r :: rest) ((done.length : Int) + 1) else some false) (fun k => ?_) ?_
    · simp only [laws_eqCallSS.l0, e]
      rw [if_pos (by rw [List.length_append, List.length_cons]; omega), if_pos (by omega), if_pos (by rw [List.length_append, List.length_cons]; omega), w64 (by omega) (by omega)]
    · refine Ev.bind (eqCallS_ev r (hr r (List.mem_cons_self))) ?_
      simp only [if_true]
      have := eqCallSS_l0 rest (done ++ [r]) (by rw [List.length_append, List.length_singleton]; omega) (fun x hx => hr x (List.mem_cons_of_mem _ hx))
      rw [List.append_assoc, List.singleton_append, List.length_append, List.length_singleton] at this
      simpa using this
theorem eqCallSS_ev (a : List (List S54)) (h : RowsC a) : Ev (fun k => laws_eqCallSS.f k a a) true := by
  unfold laws_eqCallSS.f
  simp only [if_true]
  have := eqCallSS_l0 a [] (by simpa using h.1) h.2
  simpa using this
theorem markCallSS_l0 : ∀ (rest done : List (List S54)) (m : Int), done.length + rest.length ≤ 1048576 → (∀ r ∈ rest, r.length ≤ 1048576) → 0 ≤ m → m + totC rest ≤ 1099511627776 →
    Ev (fun k => laws_markCallSS.l0 k (done ++ rest) m (done.length : Int)) (m + totC rest, done ++ markedRC rest m)
  | [], done, m, h, _, _, _ => by
    refine ev_step (f := fun _ => some (m, done ++ [])) (fun k => ?_) ?_
    · simp only [laws_markCallSS.l0]
      rw [if_neg (by simp)]
    · simp only [totC, Int.add_zero, markedRC]; exact ev_now _
  | r :: rest, done, m, h, hr, hm, hb => by
    simp only [List.length_cons] at h
    simp only [totC] at hb
    have hn := totC_nonneg rest
    refine ev_step (f := fun k => (laws_markCallS.f k r m).bind fun t => laws_markCallSS.l0 k ((done ++ r :: rest).set done.length t.2) t.1 ((done.length : Int) + 1)) (fun k => ?_) ?_
    · simp only [laws_markCallSS.l0, Int.toNat_natCast, getD_len]
      rw [if_pos (by rw [List.length_append, List.length_cons]; omega), if_pos (by omega), w64 (by omega) (by omega)]
    · refine Ev.bind (markCallS_ev r m (hr r (List.mem_cons_self)) hm (by omega)) ?_
      have := markCallSS_l0 rest (done ++ [markedC r.length m]) (m + 2 * (r.length : Int)) (by rw [List.length_append, List.length_singleton]; omega) (fun x hx => hr x (List.mem_cons_of_mem _ hx)) (by omega) (by omega)
      rw [List.append_assoc, List.singleton_append, List.length_append, List.length_singleton] at this
      simp only [set_len, totC, markedRC]
      rw [List.append_assoc, List.singleton_append, Int.add_assoc] at this
      simpa using this
theorem markCallSS_ev (l : List (List S54)) (m : Int) (h : RowsC l) (hm : 0 ≤ m) (hb : m + totC l ≤ 1099511627776) : Ev (fun k => laws_markCallSS.f k l m) (m + totC l, markedRC l m) := by
  unfold laws_markCallSS.f
  have := markCallSS_l0 l [] m (by simpa using h.1) h.2 hm hb
  simpa using this
theorem heldCallSS_l0 : ∀ (rest done : List (List S54)) (m : Int), done.length + rest.length ≤ 1048576 → (∀ r ∈ rest, r.length ≤ 1048576) → 0 ≤ m → m + totC rest ≤ 1099511627776 →
    Ev (fun k => laws_heldCallSS.l0 k (done ++ markedRC rest m) m (done.length : Int)) (m + totC rest)
  | [], done, m, h, _, _, _ => by
    show Ev (fun k => laws_heldCallSS.l0 k (done ++ []) m (done.length : Int)) (m + totC [])
    refine ev_step (f := fun _ => some m) (fun k => ?_) ?_
    · have hh : ¬ ((done.length : Int) < ((done ++ ([] : List (List S54))).length : Int)) := by simp
      simp only [laws_heldCallSS.l0]
      rw [if_neg hh]
    · simp only [totC, Int.add_zero]; exact ev_now _
  | r :: rest, done, m, h, hr, hm, hb => by
    simp only [List.length_cons] at h
    simp only [totC] at hb
    have hn := totC_nonneg rest
    have e : rd_L2 (done ++ markedC r.length m :: markedRC rest (m + 2 * (r.length : Int))) (done.length : Int) = markedC r.length m := by
      show (done ++ markedC r.length m :: markedRC rest (m + 2 * (r.length : Int))).getD ((done.length : Int)).toNat [] = _
      rw [Int.toNat_natCast, getD_len]
    show Ev (fun k => laws_heldCallSS.l0 k (done ++ markedC r.length m :: markedRC rest (m + 2 * (r.length : Int))) m (done.length : Int)) _
    refine ev_step (f := fun k => (laws_heldCallS.f k (markedC r.length m) m).bind fun t => if t < 0 then some (-1) else laws_heldCallSS.l0 k (done ++ markedC r.length m :: markedRC rest (m + 2 * (r.length : Int))) t ((done.length : Int) + 1)) (fun k => ?_) ?_
    · simp only [laws_heldCallSS.l0, e]
      rw [if_pos (by rw [List.length_append, List.length_cons]; omega), if_pos (by omega), w64 (by omega) (by omega)]
    · refine Ev.bind (heldCallS_ev r.length m (hr r (List.mem_cons_self)) hm (by omega)) ?_
      have hp : ¬ m + 2 * (r.length : Int) < 0 := by omega
      simp only [if_neg hp]
      have := heldCallSS_l0 rest (done ++ [markedC r.length m]) (m + 2 * (r.length : Int)) (by rw [List.length_append, List.length_singleton]; omega) (fun x hx => hr x (List.mem_cons_of_mem _ hx)) (by omega) (by omega)
      rw [List.append_assoc, List.singleton_append, List.length_append, List.length_singleton] at this
      simp only [totC]
      rw [Int.add_assoc] at this
      simpa using this
theorem heldCallSS_ev (l : List (List S54)) (m : Int) (h : RowsC l) (hm : 0 ≤ m) (hb : m + totC l ≤ 1099511627776) : Ev (fun k => laws_heldCallSS.f k (markedRC l m) m) (m + totC l) := by
  unfold laws_heldCallSS.f
  have := heldCallSS_l0 l [] m (by simpa using h.1) h.2 hm hb
  simpa using this
theorem rowsC_tot {l : List (List S54)} (h1 : l.length ≤ 1000) (h2 : ∀ r ∈ l, r.length ≤ 1048576) : RowsC l ∧ 1 + totC l ≤ 1099511627776 := by
  refine ⟨⟨by omega, h2⟩, ?_⟩
  have := totC_le 1048576 l h2
  omega

/-! calls, sorted by insertion -/
def lessP (a b : S54) : Bool := decide (a.f0 < b.f0) || (decide (a.f0 = b.f0) && decide (a.f1 < b.f1))
def posP (r : List S54) (c : S54) : Nat → Nat
  | 0 => 0
  | k + 1 => if lessP c (r.getD k z54) = true then posP r c k else k + 1
def putP (r : List S54) (c : S54) : List S54 := r.take (posP r c r.length) ++ c :: r.drop (posP r c r.length)
def sortP (r : List S54) : List S54 := r.foldl putP []
theorem posP_le (r : List S54) (c : S54) : ∀ k, posP r c k ≤ k
  | 0 => Nat.le_refl _
  | k + 1 => by
    rw [posP]
    split
    · exact Nat.le_succ_of_le (posP_le r c k)
    · exact Nat.le_refl _
theorem putP_length (r : List S54) (c : S54) : (putP r c).length = r.length + 1 := by
  have := posP_le r c r.length
  rw [putP, List.length_append, List.length_cons, List.length_take, List.length_drop]
  omega
theorem foldl_putP_length : ∀ (r acc : List S54), (r.foldl putP acc).length = acc.length + r.length
  | [], acc => rfl
  | c :: r, acc => by rw [List.foldl_cons, foldl_putP_length r, putP_length, List.length_cons]; omega
theorem sortP_length (r : List S54) : (sortP r).length = r.length := by rw [sortP, foldl_putP_length]; simp
theorem sortP_snoc (r : List S54) (c : S54) : sortP (r ++ [c]) = putP (sortP r) c := by rw [sortP, List.foldl_append]; rfl
theorem less_f (a b : S54) : spec_roLess.f a.f0 a.f1 b.f0 b.f1 = some (lessP a b) := by
  unfold spec_roLess.f lessP
  by_cases h1 : a.f0 < b.f0
  · simp [h1]
  · by_cases h2 : a.f0 = b.f0
    · simp [h2]
    · simp [h1, h2]
theorem cmp_f (a b : Int) : cmp_Compare_int.f a b = some (if a < b then -1 else if a > b then 1 else 0) := by
  unfold cmp_Compare_int.f cmp_isNaN_int.f
  by_cases h1 : a < b
  · simp [h1]
  · by_cases h2 : a > b <;> simp [h1, h2]
theorem or_f (x y : Int) : ∀ k, 4 ≤ k → cmp_Or_int.f k [x, y] = some (if x = 0 then y else x) := by
  intro k hk
  obtain ⟨k, rfl⟩ : ∃ j, k = j + 4 := ⟨k - 4, by omega⟩
  unfold cmp_Or_int.f
  have w1 : wrap64 1 = 1 := w64 (by omega) (by omega)
  have w2 : wrap64 2 = 2 := w64 (by omega) (by omega)
  have e0 : ∀ a b : Int, rd [a, b] 0 = a := fun _ _ => rfl
  have e1 : ∀ a b : Int, rd [a, b] 1 = b := fun _ _ => rfl
  by_cases hx : x = 0
  · by_cases hy : y = 0
    · simp [cmp_Or_int.l0, e0, e1, w1, w2, hx, hy]
    · simp [cmp_Or_int.l0, e0, e1, w1, w2, hx, hy]
  · simp [cmp_Or_int.l0, e0, e1, w1, w2, hx]
theorem compare_f (a b : S54) : ∀ k, 4 ≤ k → ∃ v, impl_compareCalls.f k a.f0 a.f1 b.f0 b.f1 = some v ∧ (v < 0 ↔ lessP a b = true) := by
  intro k hk
  unfold impl_compareCalls.f
  simp only [cmp_f, Option.bind_some, or_f _ _ k hk]
  refine ⟨_, rfl, ?_⟩
  unfold lessP
  by_cases h1 : a.f0 < b.f0
  · simp [h1]
  · by_cases h2 : a.f0 > b.f0
    · have h3 : ¬ a.f0 = b.f0 := by omega
      simp [h1, h2, h3]
    · have h3 : a.f0 = b.f0 := by omega
      by_cases h4 : a.f1 < b.f1
      · simp [h3, h4]
      · by_cases h5 : a.f1 > b.f1 <;> simp [h3, h4, h5]
def atP (P : List S54) (c : S54) (j : Nat) : List S54 := P.take j ++ c :: P.drop j
theorem atP_at (P rest : List S54) (c : S54) (j : Nat) (hj : j ≤ P.length) : (atP P c j ++ rest).getD j z54 = c := by
  have h : (P.take j).length = j := by rw [List.length_take]; omega
  have := getD_len (P.take j) (P.drop j ++ rest) c z54
  rw [h] at this
  rw [atP, List.append_assoc, List.cons_append]
  exact this
theorem atP_before (P rest : List S54) (c : S54) (j : Nat) (hj : j + 1 ≤ P.length) : (atP P c (j + 1) ++ rest).getD j z54 = P.getD j z54 := by
  have h : (P.take j).length = j := by rw [List.length_take]; omega
  have := getD_len (P.take j) (c :: P.drop (j + 1) ++ rest) (P.getD j z54) z54
  rw [h] at this
  rw [atP, take_at P j z54 (by omega), List.append_assoc, List.append_assoc]
  exact this
theorem atP_swap (P rest : List S54) (c : S54) (j : Nat) (hj : j + 1 ≤ P.length) : ((atP P c (j + 1) ++ rest).set (j + 1) (P.getD j z54)).set j c = atP P c j ++ rest := by
  have h : (P.take j).length = j := by rw [List.length_take]; omega
  have e1 : atP P c (j + 1) ++ rest = P.take j ++ (P.getD j z54 :: c :: (P.drop (j + 1) ++ rest)) := by
    rw [atP, take_at P j z54 (by omega)]
    simp
  have e2 : atP P c j ++ rest = P.take j ++ (c :: P.getD j z54 :: (P.drop (j + 1) ++ rest)) := by
    rw [atP, drop_at P j z54 (by omega)]
    simp
  rw [e1, e2, List.set_append_right _ _ (by omega), h, show j + 1 - j = 1 by omega, List.set_append_right _ _ (by omega), h, Nat.sub_self]
  rfl
theorem isort_l (n : Nat) (hn : n ≤ 12) : ∀ (k : Nat), (∀ (P rest : List S54), (P ++ rest).length = n → 20 * (n - P.length) + 21 ≤ k → impl_Call_98.l0 k (P ++ rest) 0 (n : Int) (P.length : Int) = some (rest.foldl putP P)) ∧
    (∀ (P rest : List S54) (c : S54) (j : Nat), P.length + 1 + rest.length = n → j ≤ P.length → 20 * (n - P.length) + j + 8 ≤ k → impl_Call_98.l1 k (atP P c j ++ rest) 0 (n : Int) (P.length : Int) (j : Int) = some (rest.foldl putP (atP P c (posP P c j)))) := by
  intro k
  induction k with
  | zero => exact ⟨fun _ _ _ h => by omega, fun _ _ _ _ _ _ h => by omega⟩
  | succ k ih =>
    have step : ∀ (P rest : List S54) (c : S54) (q : Nat), P.length + 1 + rest.length = n → q ≤ P.length → 20 * (n - P.length) + 1 ≤ k → impl_Call_98.l0 k (atP P c q ++ rest) 0 (n : Int) (wrap64 ((P.length : Int) + 1)) = some (rest.foldl putP (atP P c q)) := by
      intro P rest c q hl hq hk
      have ha : (atP P c q).length = P.length + 1 := by rw [atP, List.length_append, List.length_cons, List.length_take, List.length_drop]; omega
      have := ih.1 (atP P c q) rest (by rw [List.length_append, ha]; exact hl) (by rw [ha]; omega)
      rw [ha] at this
      rw [w64 (by omega) (by omega)]
      exact this
    refine ⟨fun P rest hl hk => ?_, fun P rest c j hl hj hk => ?_⟩
    · cases rest with
      | nil =>
        rw [List.append_nil] at hl
        simp only [impl_Call_98.l0]
        rw [if_neg (by omega), List.append_nil]
        rfl
      | cons c rest =>
        rw [List.length_append, List.length_cons] at hl
        simp only [impl_Call_98.l0]
        rw [if_pos (by omega)]
        have := ih.2 P rest c P.length (by omega) (Nat.le_refl _) (by omega)
        have e : atP P c P.length ++ rest = P ++ c :: rest := by rw [atP, List.take_length, List.drop_length]; simp
        rw [e] at this
        rw [this]
        rfl
    · have hlen : (atP P c j ++ rest).length = n := by rw [atP, List.length_append, List.length_append, List.length_cons, List.length_take, List.length_drop]; omega
      cases j with
      | zero =>
        simp only [impl_Call_98.l1]
        rw [if_neg (by omega)]
        exact step P rest c 0 hl (by omega) (by omega)
      | succ j =>
        have ej := w64 (show -9223372036854775808 ≤ ((j + 1 : Nat) : Int) - 1 by omega) (by omega)
        have ej2 : ((j + 1 : Nat) : Int) - 1 = (j : Int) := by omega
        rw [ej2] at ej
        have g1 : rd_T54 (atP P c (j + 1) ++ rest) ((j + 1 : Nat) : Int) = c := atP_at P rest c (j + 1) hj
        have g2 : rd_T54 (atP P c (j + 1) ++ rest) (j : Int) = P.getD j z54 := atP_before P rest c j hj
        obtain ⟨v, hv, hvl⟩ := compare_f c (P.getD j z54) k (by omega)
        simp only [impl_Call_98.l1, ej2, ej, g1, g2]
        rw [if_pos (by omega), if_pos (by omega), if_pos (by omega), if_pos (by omega), if_pos (by omega), hv]
        simp only [Option.bind_some]
        rw [posP]
        by_cases hless : lessP c (P.getD j z54) = true
        · rw [if_pos (hvl.2 hless), if_pos hless]
          have := ih.2 P rest c j hl (by omega) (by omega)
          have sw := atP_swap P rest c j hj
          rw [Int.toNat_natCast, Int.toNat_natCast]
          rw [show (⟨(P.getD j z54).f0, (P.getD j z54).f1⟩ : S54) = P.getD j z54 from rfl, show (⟨c.f0, c.f1⟩ : S54) = c from rfl, sw]
          exact this
        · rw [if_neg (fun h => hless (hvl.1 h)), if_neg hless]
          exact step P rest c (j + 1) hl hj (by omega)
theorem isort_f (r : List S54) (h : r.length ≤ 12) : impl_Call_43.f r = some (sortP r) := by
  unfold impl_Call_43.f
  rw [if_pos h]
  unfold impl_Call_98.f
  have e : wrap64 (0 + 1) = 1 := w64 (by omega) (by omega)
  rw [e]
  cases r with
  | nil =>
    have := impl_Call_98.l0.eq_2 [] 0 0 1 999
    rw [show (([] : List S54).length : Int) = 0 from rfl, this]
    rfl
  | cons c r =>
    have := (isort_l (c :: r).length h 1000).1 [c] r rfl (by simp; simp at h; omega)
    exact this
theorem roPut_l0 (r : List S54) (hr : r.length ≤ 1000) (c : S54) : ∀ j : Nat, j ≤ r.length → Ev (fun k => spec_roPut.l0 k r (j : Int) c.f0 c.f1) (r.take (posP r c j) ++ c :: r.drop (posP r c j))
  | 0, _ => by
    have q : ¬ ((0 : Nat) : Int) > 0 := by omega
    have q1 : (0 : Int) ≤ ((0 : Nat) : Int) := by omega
    have q2 : ((0 : Nat) : Int) ≤ (r.length : Int) := by omega
    refine Ev.step (fun k => by simp only [spec_roPut.l0, if_neg q, if_pos q1, if_pos q2, Int.toNat_natCast, Option.bind_some] <;> exact rfl) ?_
    rw [if_pos (by first | (simp; done) | (simp; omega)), if_pos (by first | (simp; done) | (simp; omega)), if_pos (by first | (simp; done) | (simp; omega))]
    rw [posP]
    simpa using ev_now _
  | j + 1, hj => by
    have q : ((j + 1 : Nat) : Int) > 0 := by omega
    have ej : wrap64 (((j + 1 : Nat) : Int) - 1) = (j : Int) := by rw [w64 (by omega) (by omega)]; omega
    have q1 : (0 : Int) ≤ (j : Int) := by omega
    have q2 : (j : Int) < (r.length : Int) := by omega
    have hl : spec_roLess.f c.f0 c.f1 (rd_T54 r (j : Int)).f0 (rd_T54 r (j : Int)).f1 = some (lessP c (r.getD j z54)) := less_f c _
    rw [posP]
    by_cases hless : lessP c (r.getD j z54) = true
    · rw [if_pos hless]
      rw [hless] at hl
      refine Ev.step (fun k => by simp only [spec_roPut.l0, if_pos q, ej, if_pos q1, if_pos q2, hl, Option.bind_some, if_true] <;> exact rfl) ?_
      exact roPut_l0 r hr c j (by omega)
    · rw [if_neg hless]
      rw [Bool.eq_false_iff.2 hless] at hl
      have q3 : (0 : Int) ≤ ((j + 1 : Nat) : Int) := by omega
      have q4 : ((j + 1 : Nat) : Int) ≤ (r.length : Int) := by omega
      refine Ev.step (fun k => by simp only [spec_roPut.l0, if_pos q, ej, if_pos q1, if_pos q2, hl, Option.bind_some, Bool.false_eq_true, if_false, if_pos q3, if_pos q4, Int.toNat_natCast] <;> exact rfl) ?_
      rw [if_pos (by first | (simp; done) | (simp; omega)), if_pos (by first | (simp; done) | (simp; omega)), if_pos (by first | (simp; done) | (simp; omega))]
      simpa using ev_now _
theorem roPut_ev (r : List S54) (hr : r.length ≤ 1000) (c : S54) : Ev (fun k => spec_roPut.f k r c.f0 c.f1) (putP r c) := by
  unfold spec_roPut.f
  exact roPut_l0 r hr c r.length (Nat.le_refl _)

/-! the rounds, as they grow -/
def topP (free : List Int) (c : S54) : Int := mx (rd free c.f0) (rd free c.f1)
def growP (out : List (List S54)) (m : Int) : List (List S54) := if m = (out.length : Int) then out ++ [[]] else out
def stepO (s : List (List S54) × List Int) (c : S54) : List (List S54) × List Int :=
  ((growP s.1 (topP s.2 c)).set (topP s.2 c).toNat ((growP s.1 (topP s.2 c)).getD (topP s.2 c).toNat [] ++ [c]), (s.2.set c.f0.toNat (wrap64 (topP s.2 c + 1))).set c.f1.toNat (wrap64 (topP s.2 c + 1)))
structure IV (n : Nat) (s : List (List S54) × List Int) : Prop where
  len : s.2.length = n
  val : ∀ x ∈ s.2, 0 ≤ x ∧ x ≤ (s.1.length : Int)
  few : ∀ i, i < s.1.length → (s.1.getD i []).length ≤ s.2.countP (fun x => decide ((i : Int) < x))
theorem isC {n a b : Int} (h : isCallB n a b = true) : 0 ≤ a ∧ a < b ∧ b < n := by simpa [isCallB] using h
theorem growP_length (out : List (List S54)) (m : Int) : (growP out m).length = if m = (out.length : Int) then out.length + 1 else out.length := by
  unfold growP
  split
  · simp
  · rfl
theorem stepO_length (s : List (List S54) × List Int) (c : S54) : (stepO s c).1.length = if topP s.2 c = (s.1.length : Int) then s.1.length + 1 else s.1.length := by
  show ((growP s.1 (topP s.2 c)).set _ _).length = _
  rw [List.length_set, growP_length]
theorem stepO_le (s : List (List S54) × List Int) (c : S54) : s.1.length ≤ (stepO s c).1.length ∧ (stepO s c).1.length ≤ s.1.length + 1 := by
  rw [stepO_length]
  split <;> omega
theorem foldO_le : ∀ (cs : List S54) (s : List (List S54) × List Int), s.1.length ≤ (cs.foldl stepO s).1.length
  | [], _ => Nat.le_refl _
  | c :: cs, s => Nat.le_trans (stepO_le s c).1 (foldO_le cs (stepO s c))
theorem top_bound {n : Nat} {s : List (List S54) × List Int} (h : IV n s) {c : S54} (hc : isCallB (n : Int) c.f0 c.f1 = true) : 0 ≤ topP s.2 c ∧ topP s.2 c ≤ (s.1.length : Int) ∧ s.2.getD c.f0.toNat 0 ≤ topP s.2 c ∧ s.2.getD c.f1.toNat 0 ≤ topP s.2 c := by
  obtain ⟨h1, h2, h3⟩ := isC hc
  have hl := h.len
  have ha := h.val (s.2.getD c.f0.toNat 0) (by rw [getD_at _ _ _ (show c.f0.toNat < s.2.length by omega)]; exact List.getElem_mem _)
  have hb := h.val (s.2.getD c.f1.toNat 0) (by rw [getD_at _ _ _ (show c.f1.toNat < s.2.length by omega)]; exact List.getElem_mem _)
  have e : topP s.2 c = if s.2.getD c.f0.toNat 0 < s.2.getD c.f1.toNat 0 then s.2.getD c.f1.toNat 0 else s.2.getD c.f0.toNat 0 := rfl
  rw [e]
  split <;> omega
theorem countP_set' (p : Int → Bool) : ∀ (l : List Int) (i : Nat) (v : Int), i < l.length → (l.set i v).countP p + (if p (l.getD i 0) = true then 1 else 0) = l.countP p + (if p v = true then 1 else 0)
  | [], i, v, h => by cases h
  | x :: l, 0, v, _ => by
    rw [List.set_cons_zero, List.countP_cons, List.countP_cons, List.getD_cons_zero]
    omega
  | x :: l, i + 1, v, h => by
    rw [List.set_cons_succ, List.countP_cons, List.countP_cons, List.getD_cons_succ]
    have := countP_set' p l i v (by simpa using h)
    omega
theorem iv_step {n : Nat} {s : List (List S54) × List Int} (h : IV n s) {c : S54} (hc : isCallB (n : Int) c.f0 c.f1 = true) (hb : s.1.length ≤ 1000) : IV n (stepO s c) := by
  obtain ⟨h1, h2, h3⟩ := isC hc
  obtain ⟨t0, t1, ta, tb⟩ := top_bound h hc
  have hl := h.len
  have hls := stepO_length s c
  have hw : wrap64 (topP s.2 c + 1) = topP s.2 c + 1 := w64 (by omega) (by omega)
  have hf : (stepO s c).2 = (s.2.set c.f0.toNat (topP s.2 c + 1)).set c.f1.toNat (topP s.2 c + 1) := by
    show (s.2.set c.f0.toNat (wrap64 (topP s.2 c + 1))).set c.f1.toNat (wrap64 (topP s.2 c + 1)) = _
    rw [hw]
  have ho : (stepO s c).1 = (growP s.1 (topP s.2 c)).set (topP s.2 c).toNat ((growP s.1 (topP s.2 c)).getD (topP s.2 c).toNat [] ++ [c]) := rfl
  have hgl := growP_length s.1 (topP s.2 c)
  refine ⟨by rw [hf, List.length_set, List.length_set, hl], fun x hx => ?_, fun i hi => ?_⟩
  · rw [hf] at hx
    have hlen2 : topP s.2 c + 1 ≤ ((stepO s c).1.length : Int) := by
      rw [hls]
      split <;> omega
    have hmono := (stepO_le s c).1
    rcases List.mem_or_eq_of_mem_set hx with hx | rfl
    · rcases List.mem_or_eq_of_mem_set hx with hx | rfl
      · have := h.val x hx
        omega
      · omega
    · omega
  · rw [hf]
    have e2 : (s.2.set c.f0.toNat (topP s.2 c + 1)).getD c.f1.toNat 0 = s.2.getD c.f1.toNat 0 := by
      rw [getD_set _ _ _ _ _ (by omega), if_neg (by omega)]
    have k1 := countP_set' (fun x => decide ((i : Int) < x)) s.2 c.f0.toNat (topP s.2 c + 1) (by omega)
    have k2 := countP_set' (fun x => decide ((i : Int) < x)) (s.2.set c.f0.toNat (topP s.2 c + 1)) c.f1.toNat (topP s.2 c + 1) (by rw [List.length_set]; omega)
    rw [e2] at k2
    simp only [decide_eq_true_eq] at k1 k2
    have hrow : ((growP s.1 (topP s.2 c)).getD i []).length ≤ s.2.countP (fun x => decide ((i : Int) < x)) := by
      unfold growP
      split
      · by_cases hi2 : i < s.1.length
        · have := h.few i hi2
          rw [List.getD_eq_getElem?_getD, List.getElem?_append_left hi2, ← List.getD_eq_getElem?_getD]
          exact this
        · rw [List.getD_eq_getElem?_getD, List.getElem?_append_right (by omega)]
          rcases Nat.eq_zero_or_pos (i - s.1.length) with h0 | h0
          · rw [h0]; exact Nat.zero_le _
          · rw [List.getElem?_eq_none (by simp; omega)]; exact Nat.zero_le _
      · rename_i hne
        rw [hls, if_neg hne] at hi
        exact h.few i hi
    have hgi : i < (growP s.1 (topP s.2 c)).length := by rw [hgl, ← hls]; exact hi
    rw [ho, getD_set _ _ _ _ _ hgi]
    by_cases hm : (topP s.2 c).toNat = i
    · rw [if_pos hm, List.length_append, List.length_singleton, hm]
      have q1 : ¬ (i : Int) < s.2.getD c.f0.toNat 0 := by omega
      have q2 : ¬ (i : Int) < s.2.getD c.f1.toNat 0 := by omega
      have q3 : (i : Int) < topP s.2 c + 1 := by omega
      rw [if_neg q1, if_pos q3] at k1
      rw [if_neg q2, if_pos q3] at k2
      omega
    · rw [if_neg hm]
      by_cases q3 : (i : Int) < topP s.2 c + 1
      · rw [if_pos q3] at k1 k2
        have z1 : (if (i : Int) < s.2.getD c.f0.toNat 0 then 1 else 0) ≤ 1 := by split <;> omega
        have z2 : (if (i : Int) < s.2.getD c.f1.toNat 0 then 1 else 0) ≤ 1 := by split <;> omega
        omega
      · have q1 : ¬ (i : Int) < s.2.getD c.f0.toNat 0 := by omega
        have q2 : ¬ (i : Int) < s.2.getD c.f1.toNat 0 := by omega
        rw [if_neg q1, if_neg q3] at k1
        rw [if_neg q2, if_neg q3] at k2
        omega
theorem row_le {n : Nat} {s : List (List S54) × List Int} (h : IV n s) (i : Nat) (hi : i < s.1.length) : (s.1.getD i []).length ≤ n := by
  have h1 := h.few i hi
  have h2 := List.countP_le_length (p := fun x => decide ((i : Int) < x)) (l := s.2)
  have := h.len
  omega
theorem rows_le {n : Nat} {s : List (List S54) × List Int} (h : IV n s) : ∀ r ∈ s.1, r.length ≤ n := by
  intro r hr
  obtain ⟨i, hi, rfl⟩ := List.getElem_of_mem hr
  have := row_le h i hi
  rwa [getD_at _ _ _ hi] at this
theorem step_f {n : Nat} (hn : n ≤ 10) {s : List (List S54) × List Int} (h : IV n s) {c : S54} (hc : isCallB (n : Int) c.f0 c.f1 = true) (hb : s.1.length ≤ 1000) : impl_IntoRounds.step s.1 s.2 c = some (stepO s c) := by
  obtain ⟨h1, h2, h3⟩ := isC hc
  obtain ⟨t0, t1, ta, tb⟩ := top_bound h hc
  have hl := h.len
  have hgl := growP_length s.1 (topP s.2 c)
  have hrow : ((growP s.1 (topP s.2 c)).getD (topP s.2 c).toNat []).length ≤ n := by
    unfold growP
    split
    · rename_i e
      rw [e, Int.toNat_natCast, List.getD_eq_getElem?_getD, List.getElem?_append_right (Nat.le_refl _), Nat.sub_self]
      exact Nat.zero_le _
    · exact row_le h _ (by omega)
  unfold impl_IntoRounds.step
  rw [if_pos ⟨h1, by omega, by omega, by omega⟩]
  show (if topP s.2 c = (s.1.length : Int) then (if s.1.length < 1048576 then impl_IntoRounds.put (s.1 ++ [[]]) s.2 c (topP s.2 c) else none) else impl_IntoRounds.put s.1 s.2 c (topP s.2 c)) = _
  have e : (if topP s.2 c = (s.1.length : Int) then (if s.1.length < 1048576 then impl_IntoRounds.put (s.1 ++ [[]]) s.2 c (topP s.2 c) else none) else impl_IntoRounds.put s.1 s.2 c (topP s.2 c)) = impl_IntoRounds.put (growP s.1 (topP s.2 c)) s.2 c (topP s.2 c) := by
    unfold growP
    split
    · rw [if_pos (by omega)]
    · rfl
  rw [e]
  unfold impl_IntoRounds.put
  rw [if_pos ⟨t0, by rw [hgl]; split <;> omega, by omega⟩]
  rfl
theorem loop_f {n : Nat} (hn : n ≤ 10) : ∀ (cs : List S54) (s : List (List S54) × List Int), IV n s → (∀ c ∈ cs, isCallB (n : Int) c.f0 c.f1 = true) → s.1.length + cs.length ≤ 1000 → impl_IntoRounds.loop cs s.1 s.2 = some (cs.foldl stepO s).1 ∧ IV n (cs.foldl stepO s)
  | [], s, h, _, _ => ⟨rfl, h⟩
  | c :: cs, s, h, hc, hb => by
    rw [List.length_cons] at hb
    have h1 := step_f hn h (hc c (List.mem_cons_self)) (by omega)
    have h2 := iv_step h (hc c (List.mem_cons_self)) (by omega)
    have h3 := stepO_le s c
    obtain ⟨h4, h5⟩ := loop_f hn cs (stepO s c) h2 (fun d hd => hc d (List.mem_cons_of_mem _ hd)) (by omega)
    rw [impl_IntoRounds.loop, h1]
    exact ⟨h4, h5⟩
theorem sorts_f : ∀ (out : List (List S54)), (∀ r ∈ out, r.length ≤ 12) → impl_IntoRounds.sorts out = some (out.map sortP)
  | [], _ => rfl
  | r :: out, h => by
    rw [impl_IntoRounds.sorts, isort_f r (h r (List.mem_cons_self)), Option.bind_some, sorts_f out (fun x hx => h x (List.mem_cons_of_mem _ hx))]
    rfl
def startO (n : Nat) : List (List S54) × List Int := ([], List.replicate n 0)
theorem iv_start (n : Nat) : IV n (startO n) := ⟨List.length_replicate, fun x hx => by
  have := List.eq_of_mem_replicate hx
  subst this
  exact ⟨Int.le_refl _, Int.le_refl _⟩, fun i hi => by cases hi⟩
def finP (out : List (List S54)) : List (List S54) × Bool := if 20 < out.length then ([], false) else (out.map sortP, true)
def resP (n : Int) (cs : List S54) : List (List S54) × Bool := if areCallsB n cs = true then finP (cs.foldl stepO (startO n.toNat)).1 else ([], false)
theorem goodP {n : Int} {cs : List S54} (h : areCallsB n cs = true) : 1 ≤ n ∧ n ≤ 10 ∧ cs.length ≤ 60 ∧ ∀ c ∈ cs, isCallB ((n.toNat : Nat) : Int) c.f0 c.f1 = true := by
  obtain ⟨h1, h2, h3, h4⟩ := areCallsB_true h
  refine ⟨h1, h2, h3, fun c hc => ?_⟩
  rw [show ((n.toNat : Nat) : Int) = n by omega]
  exact h4 c hc
theorem resP_rows (n : Int) (cs : List S54) (_ : cs.length ≤ 1048576) : RowsC (resP n cs).1 ∧ 1 + totC (resP n cs).1 ≤ 1099511627776 := by
  have h : (resP n cs).1.length ≤ 20 ∧ ∀ r ∈ (resP n cs).1, r.length ≤ 10 := by
    unfold resP
    split
    · rename_i hg
      obtain ⟨h1, h2, h3, h4⟩ := goodP hg
      obtain ⟨_, hI⟩ := loop_f (by omega : n.toNat ≤ 10) cs (startO n.toNat) (iv_start _) h4 (by show 0 + cs.length ≤ 1000; omega)
      unfold finP
      split
      · exact ⟨Nat.zero_le _, fun r hr => by cases hr⟩
      · refine ⟨by rw [List.length_map]; omega, fun r hr => ?_⟩
        obtain ⟨x, hx, rfl⟩ := List.mem_map.1 hr
        have := rows_le hI x hx
        rw [sortP_length]; omega
    · exact ⟨Nat.zero_le _, fun r hr => by cases hr⟩
  refine ⟨⟨by omega, fun r hr => by have := h.2 r hr; omega⟩, ?_⟩
  have h2 := totC_le 10 (resP n cs).1 h.2
  omega
theorem impl_ev (n : Int) (cs : List S54) (_ : cs.length ≤ 1048576) : Ev (fun k => impl_IntoRounds.f k n cs) (resP n cs) := by
  unfold impl_IntoRounds.f resP impl_AreCalls.f
  simp only [Option.bind_some]
  cases hg : areCallsB n cs with
  | false => simpa using ev_now _
  | true =>
    obtain ⟨h1, h2, h3, h4⟩ := goodP hg
    obtain ⟨hL, hI⟩ := loop_f (by omega : n.toNat ≤ 10) cs (startO n.toNat) (iv_start _) h4 (by show 0 + cs.length ≤ 1000; omega)
    have hL' : impl_IntoRounds.loop cs [] (List.replicate n.toNat 0) = some (cs.foldl stepO (startO n.toNat)).1 := hL
    have q1 : (0 : Int) ≤ n := by omega
    have q2 : n.toNat ≤ 1048576 := by omega
    have hr := rows_le hI
    simp only [if_true, if_pos q1, if_pos q2, hL', Option.bind_some]
    unfold finP
    by_cases hq : 20 < (cs.foldl stepO (startO n.toNat)).1.length
    · simp only [if_pos hq]
      exact ev_now _
    · simp only [if_neg hq, sorts_f _ (fun r hx => by have := hr r hx; omega), Option.bind_some]
      exact ev_now _
theorem most_mx (a b : Int) : spec_l1Most.f a b = some (mx a b) := by
  unfold spec_l1Most.f mx
  by_cases h : a > b
  · rw [if_pos h, if_neg (by omega)]
  · rw [if_neg h]
    by_cases h2 : a < b
    · rw [if_pos h2]
    · rw [if_neg h2, show a = b by omega]
theorem spec_l1 {n : Nat} {s : List (List S54) × List Int} (hn : n ≤ 10) (h : IV n s) {c : S54} (hc : isCallB (n : Int) c.f0 c.f1 = true) (hb : s.1.length ≤ 1000) (l : List S54) (i : Nat) (hi : i ≤ 1000) (R : List (List S54) × Bool)
    (hk : Ev (fun k => spec_IntoRounds.l0 k (stepO s c).2 ((stepO s c).1.map sortP) l (l.length : Int) ((i + 1 : Nat) : Int)) R) :
    Ev (fun k => spec_IntoRounds.l1 k s.2 (s.1.map sortP) (topP s.2 c) l (l.length : Int) (i : Int) c.f0 c.f1) R := by
  obtain ⟨h1, h2, h3⟩ := isC hc
  obtain ⟨t0, t1, ta, tb⟩ := top_bound h hc
  have hl := h.len
  have hgl := growP_length s.1 (topP s.2 c)
  have hrow : ((growP s.1 (topP s.2 c)).getD (topP s.2 c).toNat []).length ≤ n := by
    unfold growP
    split
    · rename_i e
      rw [e, Int.toNat_natCast, List.getD_eq_getElem?_getD, List.getElem?_append_right (Nat.le_refl _), Nat.sub_self]
      exact Nat.zero_le _
    · exact row_le h _ (by omega)
  have hm : topP s.2 c < ((growP s.1 (topP s.2 c)).length : Int) := by rw [hgl]; split <;> omega
  have main : Ev (fun k => spec_IntoRounds.l1 k s.2 ((growP s.1 (topP s.2 c)).map sortP) (topP s.2 c) l (l.length : Int) (i : Int) c.f0 c.f1) R := by
    have q0 : ¬ ((((growP s.1 (topP s.2 c)).map sortP).length : Nat) : Int) ≤ topP s.2 c := by rw [List.length_map]; omega
    have q1 : topP s.2 c < ((((growP s.1 (topP s.2 c)).map sortP).length : Nat) : Int) := by omega
    have er : rd_L2 ((growP s.1 (topP s.2 c)).map sortP) (topP s.2 c) = sortP ((growP s.1 (topP s.2 c)).getD (topP s.2 c).toNat []) := getD_map sortP _ _ [] [] (by omega)
    have q2 : c.f0 < (s.2.length : Int) := by omega
    have q3 : 0 ≤ c.f1 := by omega
    have q4 : c.f1 < (s.2.length : Int) := by omega
    have ei := w64 (show -9223372036854775808 ≤ (i : Int) + 1 by omega) (by omega)
    refine Ev.step (fun k => by simp only [spec_IntoRounds.l1, if_neg q0, if_pos t0, if_pos q1, er, if_pos h1, if_pos q2, if_pos q3, if_pos q4, ei] <;> exact rfl) ?_
    refine Ev.bind (roPut_ev _ (by rw [sortP_length]; omega) c) ?_
    have e1 : ((growP s.1 (topP s.2 c)).map sortP).set (topP s.2 c).toNat (putP (sortP ((growP s.1 (topP s.2 c)).getD (topP s.2 c).toNat [])) c) = (stepO s c).1.map sortP := by
      rw [← sortP_snoc]
      exact List.map_set.symm
    rw [e1]
    exact hk
  by_cases hq : topP s.2 c = (s.1.length : Int)
  · have q0 : (((s.1.map sortP).length : Nat) : Int) ≤ topP s.2 c := by rw [List.length_map]; omega
    have q1 : (s.1.map sortP).length < 5864062014805 := by rw [List.length_map]; omega
    refine Ev.step (fun k => by simp only [spec_IntoRounds.l1, if_pos q0, if_pos q1] <;> exact rfl) ?_
    have e : s.1.map sortP ++ [[]] = (growP s.1 (topP s.2 c)).map sortP := by
      unfold growP
      rw [if_pos hq, List.map_append]
      rfl
    rw [e]
    exact main
  · have e : growP s.1 (topP s.2 c) = s.1 := by unfold growP; rw [if_neg hq]
    rw [e] at main
    exact main
theorem spec_l0 {n : Nat} (hn : n ≤ 10) (l : List S54) (hl : l.length ≤ 60) (hc : ∀ c ∈ l, isCallB (n : Int) c.f0 c.f1 = true) : ∀ (d i : Nat) (s : List (List S54) × List Int), i + d = l.length → IV n s → s.1.length ≤ 20 → Ev (fun k => spec_IntoRounds.l0 k s.2 (s.1.map sortP) l (l.length : Int) (i : Int)) (finP ((l.drop i).foldl stepO s).1) := by
  intro d
  induction d with
  | zero =>
    intro i s hi hI hs
    have hi' : ¬ (i : Int) < (l.length : Int) := by omega
    refine Ev.step (fun k => by simp only [spec_IntoRounds.l0, if_neg hi'] <;> exact rfl) ?_
    rw [List.drop_eq_nil_of_le (by omega), List.foldl_nil, finP, if_neg (by omega)]
    exact ev_now _
  | succ d ih =>
    intro i s hi hI hs
    have q1 : (i : Int) < (l.length : Int) := by omega
    have q2 : (0 : Int) ≤ (i : Int) := by omega
    have hm : l.getD i z54 ∈ l := by rw [getD_at _ _ _ (show i < l.length by omega)]; exact List.getElem_mem _
    have hci := hc _ hm
    obtain ⟨h1, h2, h3⟩ := isC hci
    obtain ⟨t0, t1, ta, tb⟩ := top_bound hI hci
    have hlen := hI.len
    have er : rd_T54 l (i : Int) = l.getD i z54 := rfl
    rw [drop_at l i z54 (by omega), List.foldl_cons]
    generalize l.getD i z54 = c at hci h1 h2 h3 t0 t1 ta tb er ⊢
    have p1 : c.f0 < (s.2.length : Int) := by omega
    have p2 : 0 ≤ c.f1 := by omega
    have p3 : c.f1 < (s.2.length : Int) := by omega
    have et : mx (rd s.2 c.f0) (rd s.2 c.f1) = topP s.2 c := rfl
    have hsl := stepO_length s c
    by_cases hq : topP s.2 c = 20
    · have hfl := foldO_le (l.drop (i + 1)) (stepO s c)
      rw [if_pos (by omega)] at hsl
      rw [finP, if_pos (by omega)]
      exact Ev.step (fun k => by simp only [spec_IntoRounds.l0, if_pos q1, if_pos q2, er, if_pos h1, if_pos p1, if_pos p2, if_pos p3, most_mx, Option.bind_some, et, if_pos hq] <;> exact rfl) (ev_now _)
    · refine Ev.step (fun k => by simp only [spec_IntoRounds.l0, if_pos q1, if_pos q2, er, if_pos h1, if_pos p1, if_pos p2, if_pos p3, most_mx, Option.bind_some, et, if_neg hq] <;> exact rfl) ?_
      refine spec_l1 hn hI hci (by omega) l i (by omega) _ (ih (i + 1) (stepO s c) (by omega) (iv_step hI hci (by omega)) ?_)
      rw [hsl]
      split <;> omega
theorem spec_ev (n : Int) (cs : List S54) (h : cs.length ≤ 1048576) : Ev (fun k => spec_IntoRounds.f k n cs) (resP n cs) := by
  unfold spec_IntoRounds.f resP
  refine Ev.bind (caGood_ev n cs h) ?_
  cases hg : areCallsB n cs with
  | false => simpa using ev_now _
  | true =>
    obtain ⟨h1, h2, h3, h4⟩ := goodP hg
    have q1 : (0 : Int) ≤ n := by omega
    have q2 : n.toNat ≤ 35184372088832 := by omega
    simp only [if_true, if_pos q1, if_pos q2]
    have := spec_l0 (by omega : n.toNat ≤ 10) cs h3 h4 cs.length 0 (startO n.toNat) (by omega) (iv_start _) (Nat.zero_le _)
    exact this
theorem FnExactIntoRounds : ∀ (a0 : Int) (l1 : (List S63)), (Lit.int .i64 a0).wf = true → l1.length ≤ 9223372036854775807 → ∃ k, laws_FnExactIntoRounds.f k a0 l1 = some true := by
  intro a0 l1 w0 hl1
  apply Ev.rounds
  unfold laws_FnExactIntoRounds.f
  by_cases h1 : l1.length ≤ 1048576
  · simp only [szCallS_small l1 h1, Option.bind_some]
    have h0 : ¬ (1048576 - (l1.length : Int)) < 0 := by omega
    simp only [if_neg h0]
    have g1 : (toCalls l1).length ≤ 1048576 := by rw [toCalls_length]; exact h1
    refine Ev.bind (toCallS_ev l1 h1) ?_
    refine Ev.bind (spec_ev a0 (toCalls l1) g1) ?_
    refine Ev.bind (impl_ev a0 (toCalls l1) g1) ?_
    obtain ⟨hr, hb⟩ := resP_rows a0 (toCalls l1) g1
    refine Ev.bind (eqCallSS_ev _ hr) ?_
    simp only [true_and, if_true]
    refine Ev.bind (eqCallS_ev _ g1) ?_
    simp only [if_true]
    refine Ev.bind (markCallS_ev _ 1 g1 (by omega) (by omega)) ?_
    have hm : 0 ≤ 1 + 2 * (((toCalls l1).length : Nat) : Int) := by omega
    simp only [if_pos hm]
    refine Ev.bind (markCallSS_ev _ 1 hr (by omega) hb) ?_
    refine Ev.bind (heldCallSS_ev _ 1 hr (by omega) hb) ?_
    have hp : 0 ≤ 1 + totC (resP a0 (toCalls l1)).1 := by have := totC_nonneg (resP a0 (toCalls l1)).1; omega
    simp only [hp, and_self, if_true]
    exact ev_now _
  · simp only [szCallS_great l1 h1 hl1, Option.bind_some]
    exact ev_now _

end Go.Proofs.Ytgcpbaipdpchfaa.Pure
