/- The pure side of FnExactBackCalls: program and reference agree at every argument. No condition beside what an argument is. -/
import Derived.Test.YtipihdhghbkpfaaPFnExactBackCallsx10
import Derived.Test.YtipihdhghbkpfaaPBase
namespace Go.Proofs.Ytipihdhghbkpfaa.Pure
open Go.RowKit Go.Proofs.Ytipihdhghbkpfaa.PFnExactBackCalls Go.Proofs.YtipihdhghbkpfaaW.PrintWords Go.Proofs.YtipihdhghbkpfaaW.PrintLast Go.Proofs.YtipihdhghbkpfaaW.PrintMore Go.Proofs.Ytipihdhghbkpfaa.PB
set_option linter.unusedSimpArgs false
set_option linter.unusedVariables false
/-! calls: read, compared, marked -/
def toCalls (l : List S55) : List S53 := l.map fun c => ⟨c.f0, c.f1⟩
theorem toCalls_length (l : List S55) : (toCalls l).length = l.length := by simp [toCalls]

theorem szCallS_small (l : List S55) (h : l.length ≤ 1048576) : laws_szCallS.f l 1048576 = some (1048576 - (l.length : Int)) := by
  unfold laws_szCallS.f
  rw [w64 (by omega) (by omega), if_neg (by omega)]
theorem szCallS_great (l : List S55) (h : ¬ l.length ≤ 1048576) (h2 : l.length ≤ 9223372036854775807) : laws_szCallS.f l 1048576 = some (-1) := by
  unfold laws_szCallS.f
  rw [w64 (by omega) (by omega), if_pos (by omega)]

theorem toCallS_l0 (l : List S55) (h : l.length ≤ 1048576) : ∀ (d : Nat) (i : Int) (acc : List S53), 0 ≤ i → i + d = l.length → acc.length = l.length →
    (∀ j : Nat, (j : Int) < i → acc.getD j z53 = (toCalls l).getD j z53) → Ev (fun k => laws_toCallS.l0 k l acc i) (toCalls l) := by
  intro d
  induction d with
  | zero =>
    intro i acc h0 hi hl hacc
    refine ev_step (f := fun _ => some acc) (fun k => ?_) ?_
    · simp only [laws_toCallS.l0]; rw [if_neg (by omega)]
    · have : acc = toCalls l := ext_getD z53 (by rw [hl, toCalls_length]) (fun j hj => hacc j (by omega))
      rw [this]; exact ev_now _
  | succ d ih =>
    intro i acc h0 hi hl hacc
    refine ev_step (f := fun k => laws_toCallS.l0 k l (acc.set i.toNat ⟨(l.getD i.toNat z55).f0, (l.getD i.toNat z55).f1⟩) (i + 1)) (fun k => ?_) ?_
    · simp only [laws_toCallS.l0, laws_toCall.f, rd_T55, Option.bind_some]
      rw [if_pos (by omega), if_pos h0, if_pos (by omega), w64 (by omega) (by omega)]
    · refine ih (i + 1) _ (by omega) (by omega) (by simpa using hl) (fun j hj => ?_)
      rw [getD_set _ _ _ _ _ (by omega)]
      split
      · rename_i e
        subst e
        rw [toCalls, getD_map (fun c : S55 => (⟨c.f0, c.f1⟩ : S53)) l i.toNat z55 z53 (by omega)]
      · exact hacc j (by omega)
theorem toCallS_ev (l : List S55) (h : l.length ≤ 1048576) : Ev (fun k => laws_toCallS.f k l) (toCalls l) := by
  unfold laws_toCallS.f
  have h1 : (0 : Int) ≤ (l.length : Int) := by omega
  have h2 : ((l.length : Int)).toNat ≤ 17592186044416 := by omega
  simp only [if_pos h1, if_pos h2]
  exact toCallS_l0 l h l.length 0 _ (by omega) (by omega) (by simp) (fun j hj => by omega)

theorem eqCallS_l0 (a : List S53) (h : a.length ≤ 1048576) : ∀ (d : Nat) (i : Int), 0 ≤ i → i + d = a.length → Ev (fun k => laws_eqCallS.l0 k a a i) true := by
  intro d
  induction d with
  | zero =>
    intro i h0 hi
    refine ev_step (f := fun _ => some true) (fun k => ?_) (ev_now _)
    simp only [laws_eqCallS.l0]; rw [if_neg (by omega)]
  | succ d ih =>
    intro i h0 hi
    refine ev_step (f := fun k => laws_eqCallS.l0 k a a (i + 1)) (fun k => ?_) (ih _ (by omega) (by omega))
    simp only [laws_eqCallS.l0, laws_eqCall.f, if_true, Option.bind_some]
    rw [if_pos (by omega), if_pos h0, if_pos (by omega), w64 (by omega) (by omega)]
theorem eqCallS_ev (a : List S53) (h : a.length ≤ 1048576) : Ev (fun k => laws_eqCallS.f k a a) true := by
  unfold laws_eqCallS.f
  simp only [if_true]
  exact eqCallS_l0 a h a.length 0 (by omega) (by omega)

/-! calls: marked -/
def markedC (n : Nat) (m : Int) : List S53 := (List.range n).map fun i : Nat => ⟨m + 2 * (i : Int), m + 2 * (i : Int) + 1⟩
theorem markCallS_l0 (n : Nat) (m : Int) (hn : n ≤ 1048576) (hm : 0 ≤ m) (hm2 : m ≤ 1099511627776) : ∀ (d : Nat) (i : Int) (acc : List S53), 0 ≤ i → i + d = n → acc.length = n →
    (∀ j : Nat, (j : Int) < i → acc.getD j z53 = (markedC n m).getD j z53) → Ev (fun k => laws_markCallS.l0 k acc (m + 2 * i) i) (m + 2 * n, markedC n m) := by
  intro d
  induction d with
  | zero =>
    intro i acc h0 hi hl hacc
    refine ev_step (f := fun _ => some (m + 2 * i, acc)) (fun k => ?_) ?_
    · simp only [laws_markCallS.l0]; rw [if_neg (by omega)]
    · have e : acc = markedC n m := ext_getD z53 (by rw [hl]; simp [markedC]) (fun j hj => hacc j (by omega))
      rw [e, show m + 2 * i = m + 2 * n by omega]; exact ev_now _
  | succ d ih =>
    intro i acc h0 hi hl hacc
    refine ev_step (f := fun k => laws_markCallS.l0 k (acc.set i.toNat ⟨m + 2 * i, m + 2 * i + 1⟩) (m + 2 * (i + 1)) (i + 1)) (fun k => ?_) ?_
    · have hi' : i.toNat < acc.length := by omega
      simp only [laws_markCallS.l0, Option.bind_some, rd_T53]
      rw [if_pos (by omega), if_pos h0, w64 (by omega) (by omega), w64 (by omega) (by omega), w64 (by omega) (by omega), show m + 2 * i + 1 + 1 = m + 2 * (i + 1) by omega, List.set_set, getD_set _ _ _ _ _ hi']
      simp
    · refine ih (i + 1) _ (by omega) (by omega) (by simpa using hl) (fun j hj => ?_)
      rw [getD_set _ _ _ _ _ (by omega)]
      split
      · rename_i e
        subst e
        rw [markedC, getD_range_map _ _ _ _ (by omega), show ((i.toNat : Nat) : Int) = i by omega]
      · exact hacc j (by omega)
theorem markCallS_ev (l : List S53) (m : Int) (hn : l.length ≤ 1048576) (hm : 0 ≤ m) (hm2 : m ≤ 1099511627776) : Ev (fun k => laws_markCallS.f k l m) (m + 2 * (l.length : Int), markedC l.length m) := by
  unfold laws_markCallS.f
  have := markCallS_l0 l.length m hn hm hm2 l.length 0 l (by omega) (by omega) rfl (fun j hj => by omega)
  simpa using this

/-! calls: held -/
theorem heldCallS_l0 (n : Nat) (m : Int) (hn : n ≤ 1048576) (hm : 0 ≤ m) (hm2 : m ≤ 1099511627776) : ∀ (d : Nat) (i : Int), 0 ≤ i → i + d = n → Ev (fun k => laws_heldCallS.l0 k (markedC n m) (m + 2 * i) i) (m + 2 * n) := by
  intro d
  have hl : (markedC n m).length = n := by simp [markedC]
  induction d with
  | zero =>
    intro i h0 hi
    refine ev_step (f := fun _ => some (m + 2 * i)) (fun k => ?_) ?_
    · simp only [laws_heldCallS.l0]; rw [if_neg (by omega)]
    · rw [show m + 2 * i = m + 2 * n by omega]; exact ev_now _
  | succ d ih =>
    intro i h0 hi
    refine ev_step (f := fun k => laws_heldCallS.l0 k (markedC n m) (m + 2 * (i + 1)) (i + 1)) (fun k => ?_) (ih _ (by omega) (by omega))
    have e : rd_T53 (markedC n m) i = ⟨m + 2 * i, m + 2 * i + 1⟩ := by
      show (markedC n m).getD i.toNat z53 = _
      rw [markedC, getD_range_map _ _ _ _ (by omega), show ((i.toNat : Nat) : Int) = i by omega]
    simp only [laws_heldCallS.l0, e, if_true]
    rw [if_pos (by omega), if_pos h0, w64 (by omega) (by omega), w64 (by omega) (by omega), w64 (by omega) (by omega), if_pos rfl, show m + 2 * i + 1 + 1 = m + 2 * (i + 1) by omega]
theorem heldCallS_ev (n : Nat) (m : Int) (hn : n ≤ 1048576) (hm : 0 ≤ m) (hm2 : m ≤ 1099511627776) : Ev (fun k => laws_heldCallS.f k (markedC n m) m) (m + 2 * (n : Int)) := by
  unfold laws_heldCallS.f
  have := heldCallS_l0 n m hn hm hm2 n 0 (by omega) (by omega)
  simpa using this

/-! spec.caGood -/
theorem caFriends_f (n : Int) : spec_caFriends.f n = some (decide (1 ≤ n) && decide (n ≤ 10)) := by
  unfold spec_caFriends.f spec_l1In.f
  by_cases h1 : 1 ≤ n <;> by_cases h2 : n ≤ 10 <;> simp [h1, h2]
theorem caCall_f (n a b : Int) (h1 : 1 ≤ n) (h2 : n ≤ 10) : spec_caCall.f n a b = some (isCallB n a b) := by
  unfold spec_caCall.f spec_l1In.f isCallB
  rw [w64 (by omega) (by omega)]
  by_cases g1 : 0 ≤ a
  · by_cases g2 : a ≤ n - 1
    · rw [w64 (by omega) (by omega)]
      by_cases g3 : a + 1 ≤ b <;> by_cases g4 : b ≤ n - 1
      · have e1 : a < b := by omega
        have e2 : b < n := by omega
        simp [g1, g2, g3, g4, e1, e2]
      · have e1 : a < b := by omega
        have e2 : ¬ b < n := by omega
        simp [g1, g2, g3, g4, e1, e2]
      · have e1 : ¬ a < b := by omega
        simp [g1, g2, g3, e1]
      · have e1 : ¬ a < b := by omega
        simp [g1, g2, g3, e1]
    · by_cases g3 : a < b
      · have e2 : ¬ b < n := by omega
        simp [g1, g2, e2]
      · simp [g1, g2, g3]
  · simp [g1]
theorem caGood_l0 (n : Int) (l : List S53) (h : l.length ≤ 1048576) (h1 : 1 ≤ n) (h2 : n ≤ 10) : ∀ (d : Nat) (i : Int), 0 ≤ i → i + d = l.length →
    Ev (fun k => spec_caGood.l0 k n l (l.length : Int) i) ((l.drop i.toNat).all fun c => isCallB n c.f0 c.f1) := by
  intro d
  induction d with
  | zero =>
    intro i h0 hi
    refine ev_step (f := fun _ => some true) (fun k => ?_) ?_
    · simp only [spec_caGood.l0]; rw [if_neg (by omega)]
    · rw [List.drop_eq_nil_of_le (by omega)]; exact ev_now _
  | succ d ih =>
    intro i h0 hi
    have hd := drop_at l i.toNat z53 (by omega)
    cases hq : isCallB n (l.getD i.toNat z53).f0 (l.getD i.toNat z53).f1 with
    | true =>
      refine ev_step (f := fun k => spec_caGood.l0 k n l (l.length : Int) (i + 1)) (fun k => ?_) ?_
      · simp only [spec_caGood.l0, rd_T53, caCall_f n _ _ h1 h2, Option.bind_some, hq, if_true]
        rw [if_pos (by omega), if_pos h0, if_pos (by omega), w64 (by omega) (by omega)]
      · have := ih (i + 1) (by omega) (by omega)
        rw [hd, List.all_cons, hq, Bool.true_and]
        rwa [show (i + 1).toNat = i.toNat + 1 by omega] at this
    | false =>
      refine ev_step (f := fun _ => some false) (fun k => ?_) ?_
      · simp only [spec_caGood.l0, rd_T53, caCall_f n _ _ h1 h2, Option.bind_some, hq]
        rw [if_pos (by omega), if_pos h0, if_pos (by omega), if_neg (by simp)]
      · rw [hd, List.all_cons, hq, Bool.false_and]; exact ev_now _
theorem caGood_ev (n : Int) (l : List S53) (h : l.length ≤ 1048576) : Ev (fun k => spec_caGood.f k n l) (areCallsB n l) := by
  unfold spec_caGood.f
  simp only [caFriends_f, Option.bind_some]
  by_cases h1 : 1 ≤ n ∧ n ≤ 10
  · obtain ⟨h1, h2⟩ := h1
    by_cases h3 : l.length ≤ 60
    · have e : areCallsB n l = l.all fun c => isCallB n c.f0 c.f1 := by simp [areCallsB, h1, h2, h3]
      rw [e]
      have e2 : decide ((l.length : Int) > 60) = false := by rw [decide_eq_false_iff_not]; omega
      simp only [h1, h2, decide_true, Bool.and_self, if_true, e2]
      refine ev_step (f := fun k => spec_caGood.l0 k n l (l.length : Int) 0) (fun k => by simp [spec_caGood.j0]) ?_
      simpa using caGood_l0 n l h h1 h2 l.length 0 (by omega) (by omega)
    · have e : areCallsB n l = false := by simp [areCallsB, h3]
      rw [e]
      have e2 : decide ((l.length : Int) > 60) = true := by rw [decide_eq_true_eq]; omega
      simp only [h1, h2, decide_true, Bool.and_self, if_true, e2]
      exact ev_step (f := fun _ => some false) (fun k => by simp [spec_caGood.j0]) (ev_now _)
  · have e : areCallsB n l = false := by rw [Bool.eq_false_iff]; intro hh; simp [areCallsB] at hh; exact h1 ⟨hh.1, hh.2.1⟩
    have e1 : (decide (1 ≤ n) && decide (n ≤ 10)) = false := by rw [Bool.eq_false_iff]; simpa using h1
    rw [e]
    simp only [e1]
    exact ev_step (f := fun _ => some false) (fun k => by simp [spec_caGood.j0]) (ev_now _)
theorem areCallsB_true {n : Int} {cs : List S53} (h : areCallsB n cs = true) : 1 ≤ n ∧ n ≤ 10 ∧ cs.length ≤ 60 ∧ ∀ c ∈ cs, isCallB n c.f0 c.f1 = true := by
  simp [areCallsB] at h
  exact h

theorem set_getD {α : Type} (l : List α) (u : Nat) (x d : α) (p : Nat) (hp : p < l.length) : (l.set u x).getD p d = if p = u then x else l.getD p d := by
  by_cases e : p = u
  · subst e
    rw [if_pos rfl, List.getD_eq_getElem?_getD, List.getElem?_set_self hp]
    rfl
  · rw [if_neg e, List.getD_eq_getElem?_getD, List.getElem?_set_ne (by omega), ← List.getD_eq_getElem?_getD]
theorem rev_l0 (l : List S53) (h : l.length ≤ 1048576) : ∀ (g i j : Nat) (x : List S53), i + j = l.length → x.length = l.length → j ≤ i + g →
    (∀ p, p < l.length → x.getD p z53 = if p < i ∨ j ≤ p then l.getD (l.length - 1 - p) z53 else l.getD p z53) →
    Ev (fun k => impl_Call_59.l0 k x (i : Int) ((j : Int) - 1)) l.reverse := by
  have fin : ∀ (i j : Nat) (x : List S53), i + j = l.length → x.length = l.length → j ≤ i + 1 → (∀ p, p < l.length → x.getD p z53 = if p < i ∨ j ≤ p then l.getD (l.length - 1 - p) z53 else l.getD p z53) → x = l.reverse := by
    intro i j x hij hx hj hp
    refine List.ext_getElem (by rw [hx, List.length_reverse]) (fun p h1 h2 => ?_)
    have hp' : p < l.length := by omega
    have e := hp p hp'
    rw [getD_at _ _ _ h1] at e
    rw [e, List.getElem_reverse, getD_at _ _ _ (show l.length - 1 - p < l.length by omega)]
    by_cases c : p < i ∨ j ≤ p
    · rw [if_pos c]
    · rw [if_neg c, getD_at _ _ _ hp']
      congr 1
      omega
  intro g
  induction g with
  | zero =>
    intro i j x hij hx hj hp
    refine ev_step (f := fun _ => some x) (fun k => ?_) ?_
    · simp only [impl_Call_59.l0]; rw [if_neg (by omega)]
    · rw [fin i j x hij hx (by omega) hp]; exact ev_now _
  | succ g ih =>
    intro i j x hij hx hj hp
    by_cases hlt : (i : Int) < (j : Int) - 1
    · refine ev_step (f := fun k => impl_Call_59.l0 k ((x.set i (rd_T53 x ((j : Int) - 1))).set (j - 1) (rd_T53 x (i : Int))) ((i + 1 : Nat) : Int) (((j - 1 : Nat) : Int) - 1)) (fun k => ?_) ?_
      · simp only [impl_Call_59.l0]
        rw [if_pos hlt, if_pos (by omega), if_pos (by omega), if_pos (by omega), if_pos (by omega), w64 (by omega) (by omega), w64 (by omega) (by omega)]
        rw [show ((j : Int) - 1).toNat = j - 1 by omega, show ((i : Int)).toNat = i by omega, show ((j : Int) - 1 - 1) = (((j - 1 : Nat) : Int) - 1) by omega]
        rfl
      · refine ih (i + 1) (j - 1) _ (by omega) (by rw [List.length_set, List.length_set, hx]) (by omega) (fun p hpl => ?_)
        rw [set_getD _ _ _ _ _ (by rw [List.length_set, hx]; exact hpl), set_getD _ _ _ _ _ (by rw [hx]; exact hpl)]
        have e1 : rd_T53 x ((j : Int) - 1) = x.getD (j - 1) z53 := by show x.getD ((j : Int) - 1).toNat z53 = _; congr 1; omega
        have e2 : rd_T53 x (i : Int) = x.getD i z53 := rfl
        rw [e1, e2, hp (j - 1) (by omega), hp i (by omega), hp p hpl]
        rw [if_neg (show ¬ (j - 1 < i ∨ j ≤ j - 1) by omega), if_neg (show ¬ (i < i ∨ j ≤ i) by omega)]
        by_cases c1 : p = j - 1
        · rw [if_pos c1, if_pos (by omega)]; congr 1; omega
        · rw [if_neg c1]
          by_cases c2 : p = i
          · rw [if_pos c2, if_pos (by omega)]; congr 1; omega
          · rw [if_neg c2]
            by_cases c3 : p < i ∨ j ≤ p
            · rw [if_pos c3, if_pos (by omega)]
            · rw [if_neg c3, if_neg (by omega)]
    · refine ev_step (f := fun _ => some x) (fun k => ?_) ?_
      · simp only [impl_Call_59.l0]; rw [if_neg hlt]
      · rw [fin i j x hij hx (by omega) hp]; exact ev_now _
theorem rev_ev (l : List S53) (h : l.length ≤ 1048576) : Ev (fun k => impl_Call_59.f k l) l.reverse := by
  unfold impl_Call_59.f
  rw [w64 (by omega) (by omega)]
  exact rev_l0 l h l.length 0 l.length l (by omega) rfl (by omega) (fun p hp => by rw [if_neg (by omega)])


def resP (n : Int) (cs : List S53) : List S53 × Bool := if areCallsB n cs = true then (cs.reverse, true) else ([], false)
theorem resP_length (n : Int) (cs : List S53) (h : cs.length ≤ 1048576) : (resP n cs).1.length ≤ 1048576 := by
  unfold resP
  split
  · rw [List.length_reverse]; exact h
  · simp
theorem spec_l0 (cs : List S53) (h : cs.length ≤ 1048576) : ∀ (d : Nat), d ≤ cs.length → Ev (fun k => spec_BackCalls.l0 k cs ((cs.drop d).reverse) ((d : Int) - 1)) (cs.reverse, true) := by
  intro d
  induction d with
  | zero =>
    intro hd
    refine ev_step (f := fun _ => some (cs.reverse, true)) (fun k => ?_) (ev_now _)
    simp only [spec_BackCalls.l0]; rw [if_neg (by omega)]; rfl
  | succ d ih =>
    intro hd
    refine ev_step (fun k => ?_) (ih (by omega))
    have e : rd_T53 cs (((d + 1 : Nat) : Int) - 1) = cs.getD d z53 := by show cs.getD (((d + 1 : Nat) : Int) - 1).toNat z53 = _; congr 1; omega
    simp only [spec_BackCalls.l0, e]
    rw [if_pos (by omega), if_pos (by omega), if_pos (by omega), if_pos (by rw [List.length_reverse, List.length_drop]; omega), w64 (by omega) (by omega), drop_at cs d z53 (by omega), List.reverse_cons, show (((d + 1 : Nat) : Int) - 1 - 1) = (d : Int) - 1 by omega]
theorem spec_ev (n : Int) (cs : List S53) (h : cs.length ≤ 1048576) : Ev (fun k => spec_BackCalls.f k n cs) (resP n cs) := by
  unfold spec_BackCalls.f resP
  refine Ev.bind (caGood_ev n cs h) ?_
  cases hg : areCallsB n cs with
  | false => simpa using ev_now _
  | true =>
    have e : wrap64 ((cs.length : Int) - 1) = (cs.length : Int) - 1 := w64 (by omega) (by omega)
    simp only [if_true, e]
    have := spec_l0 cs h cs.length (Nat.le_refl _)
    rw [List.drop_eq_nil_of_le (Nat.le_refl _)] at this
    exact this
theorem impl_ev (n : Int) (cs : List S53) (h : cs.length ≤ 1048576) : Ev (fun k => impl_BackCalls.f k n cs) (resP n cs) := by
  unfold impl_BackCalls.f resP impl_AreCalls.f impl_Call_58.f
  simp only [Option.bind_some]
  cases hg : areCallsB n cs with
  | false => simpa using ev_now _
  | true =>
    have q : ([] : List S53).length + cs.length < 8796093022208 := by simp only [List.length_nil]; omega
    simp only [if_true, if_pos q, List.nil_append, Option.bind_some]
    exact Ev.bind (rev_ev cs h) (ev_now _)
theorem FnExactBackCalls : ∀ (a0 : Int) (l1 : (List S55)), (Lit.int .i64 a0).wf = true → l1.length ≤ 9223372036854775807 → ∃ k, laws_FnExactBackCalls.f k a0 l1 = some true := by
  intro a0 l1 w0 hl1
  apply Ev.rounds
  unfold laws_FnExactBackCalls.f
  by_cases h1 : l1.length ≤ 1048576
  · simp only [szCallS_small l1 h1, Option.bind_some]
    have h0 : ¬ (1048576 - (l1.length : Int)) < 0 := by omega
    simp only [if_neg h0]
    have g1 : (toCalls l1).length ≤ 1048576 := by rw [toCalls_length]; exact h1
    refine Ev.bind (toCallS_ev l1 h1) ?_
    refine Ev.bind (spec_ev a0 (toCalls l1) g1) ?_
    refine Ev.bind (toCallS_ev l1 h1) ?_
    refine Ev.bind (impl_ev a0 (toCalls l1) g1) ?_
    have hr : (resP a0 (toCalls l1)).1.length ≤ 1048576 := resP_length a0 (toCalls l1) g1
    have hm2 : ¬ (1 + 2 * (((resP a0 (toCalls l1)).1.length : Nat) : Int)) < 0 := by omega
    refine Ev.bind (eqCallS_ev _ hr) ?_
    simp only [bne_self_eq_false, Bool.false_eq_true, if_false, if_true]
    refine Ev.step (fun k => by simp only [laws_FnExactBackCalls.j0, Bool.false_eq_true, if_false] <;> exact rfl) ?_
    refine Ev.bind (toCallS_ev l1 h1) ?_
    refine Ev.bind (eqCallS_ev _ g1) ?_
    simp only [if_true]
    refine Ev.bind (markCallS_ev _ 1 g1 (by omega) (by omega)) ?_
    have hm11 : ¬ (1 + 2 * (((toCalls l1).length : Nat) : Int)) < 0 := by omega
    simp only [if_neg hm11]
    refine Ev.bind (eqCallS_ev _ hr) ?_
    simp only [bne_self_eq_false, Bool.false_eq_true, if_false, if_true]
    refine Ev.step (fun k => by simp only [laws_FnExactBackCalls.j1, Bool.false_eq_true, if_false] <;> exact rfl) ?_
    refine Ev.bind (markCallS_ev _ 1 hr (by omega) (by omega)) ?_
    refine Ev.bind (heldCallS_ev _ 1 hr (by omega) (by omega)) ?_
    simp only [if_neg hm2, if_true]
    refine Ev.bind (toCallS_ev l1 h1) ?_
    refine Ev.bind (impl_ev a0 (toCalls l1) g1) ?_
    refine Ev.bind (eqCallS_ev _ hr) ?_
    simp only [bne_self_eq_false, Bool.false_eq_true, if_false, if_true]
    refine Ev.step (fun k => by simp only [laws_FnExactBackCalls.j2, Bool.false_eq_true, if_false] <;> exact rfl) ?_
    refine Ev.bind (heldCallS_ev _ 1 hr (by omega) (by omega)) ?_
    simp only [if_neg hm2, if_true]
    exact ev_now _
  · simp only [szCallS_great l1 h1 hl1, Option.bind_some]
    exact ev_now _

end Go.Proofs.Ytipihdhghbkpfaa.Pure
