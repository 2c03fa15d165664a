/- The pure side of FnExactBackLetters: program and reference agree at every argument. No condition beside what an argument is. -/
import Derived.Test.YtelhjfalkhmhkaaPFnExactBackLettersx9
import Derived.Test.YtelhjfalkhmhkaaPBase
import Derived.Test.YtelhjfalkhmhkaaHBackward
namespace Go.Proofs.Ytelhjfalkhmhkaa.Pure
open Go.RowKit Go.Proofs.Ytelhjfalkhmhkaa.PFnExactBackLetters Go.Proofs.YtelhjfalkhmhkaaW.PrintWords Go.Proofs.YtelhjfalkhmhkaaW.PrintLast Go.Proofs.YtelhjfalkhmhkaaW.PrintMore Go.Proofs.Ytelhjfalkhmhkaa.PB
set_option linter.unusedSimpArgs false
set_option linter.unusedVariables false
/-! letters: read, compared, marked -/
def toLetters (l : List S77) : List S75 := l.map fun c => ⟨c.f0, c.f1⟩
theorem toLetters_length (l : List S77) : (toLetters l).length = l.length := by simp [toLetters]

theorem szLetterS_small (l : List S77) (h : l.length ≤ 1048576) : laws_szLetterS.f l 1048576 = some (1048576 - (l.length : Int)) := by
  unfold laws_szLetterS.f
  rw [w64 (by omega) (by omega), if_neg (by omega)]
theorem szLetterS_great (l : List S77) (h : ¬ l.length ≤ 1048576) (h2 : l.length ≤ 9223372036854775807) : laws_szLetterS.f l 1048576 = some (-1) := by
  unfold laws_szLetterS.f
  rw [w64 (by omega) (by omega), if_pos (by omega)]

theorem toLetterS_l0 (l : List S77) (h : l.length ≤ 1048576) : ∀ (d : Nat) (i : Int) (acc : List S75), 0 ≤ i → i + d = l.length → acc.length = l.length →
    (∀ j : Nat, (j : Int) < i → acc.getD j z75 = (toLetters l).getD j z75) → Ev (fun k => laws_toLetterS.l0 k l acc i) (toLetters l) := by
  intro d
  induction d with
  | zero =>
    intro i acc h0 hi hl hacc
    refine ev_step (f := fun _ => some acc) (fun k => ?_) ?_
    · simp only [laws_toLetterS.l0]; rw [if_neg (by omega)]
    · have : acc = toLetters l := ext_getD z75 (by rw [hl, toLetters_length]) (fun j hj => hacc j (by omega))
      rw [this]; exact ev_now _
  | succ d ih =>
    intro i acc h0 hi hl hacc
    refine ev_step (f := fun k => laws_toLetterS.l0 k l (acc.set i.toNat ⟨(l.getD i.toNat z77).f0, (l.getD i.toNat z77).f1⟩) (i + 1)) (fun k => ?_) ?_
    · simp only [laws_toLetterS.l0, laws_toLetter.f, rd_T77, Option.bind_some]
      rw [if_pos (by omega), if_pos h0, if_pos (by omega), w64 (by omega) (by omega)]
    · refine ih (i + 1) _ (by omega) (by omega) (by simpa using hl) (fun j hj => ?_)
      rw [getD_set _ _ _ _ _ (by omega)]
      split
      · rename_i e
        subst e
        rw [toLetters, getD_map (fun c : S77 => (⟨c.f0, c.f1⟩ : S75)) l i.toNat z77 z75 (by omega)]
      · exact hacc j (by omega)
theorem toLetterS_ev (l : List S77) (h : l.length ≤ 1048576) : Ev (fun k => laws_toLetterS.f k l) (toLetters l) := by
  unfold laws_toLetterS.f
  have h1 : (0 : Int) ≤ (l.length : Int) := by omega
  have h2 : ((l.length : Int)).toNat ≤ 17592186044416 := by omega
  simp only [if_pos h1, if_pos h2]
  exact toLetterS_l0 l h l.length 0 _ (by omega) (by omega) (by simp) (fun j hj => by omega)

theorem eqLetterS_l0 (a : List S75) (h : a.length ≤ 1048576) : ∀ (d : Nat) (i : Int), 0 ≤ i → i + d = a.length → Ev (fun k => laws_eqLetterS.l0 k a a i) true := by
  intro d
  induction d with
  | zero =>
    intro i h0 hi
    refine ev_step (f := fun _ => some true) (fun k => ?_) (ev_now _)
    simp only [laws_eqLetterS.l0]; rw [if_neg (by omega)]
  | succ d ih =>
    intro i h0 hi
    refine ev_step (f := fun k => laws_eqLetterS.l0 k a a (i + 1)) (fun k => ?_) (ih _ (by omega) (by omega))
    simp only [laws_eqLetterS.l0, laws_eqLetter.f, if_true, Option.bind_some]
    rw [if_pos (by omega), if_pos h0, if_pos (by omega), w64 (by omega) (by omega)]
theorem eqLetterS_ev (a : List S75) (h : a.length ≤ 1048576) : Ev (fun k => laws_eqLetterS.f k a a) true := by
  unfold laws_eqLetterS.f
  simp only [if_true]
  exact eqLetterS_l0 a h a.length 0 (by omega) (by omega)

/-! letters: marked -/
def markedL (n : Nat) (m : Int) : List S75 := (List.range n).map fun i : Nat => ⟨m + 2 * (i : Int), m + 2 * (i : Int) + 1⟩
theorem markLetterS_l0 (n : Nat) (m : Int) (hn : n ≤ 1048576) (hm : 0 ≤ m) (hm2 : m ≤ 1099511627776) : ∀ (d : Nat) (i : Int) (acc : List S75), 0 ≤ i → i + d = n → acc.length = n →
    (∀ j : Nat, (j : Int) < i → acc.getD j z75 = (markedL n m).getD j z75) → Ev (fun k => laws_markLetterS.l0 k acc (m + 2 * i) i) (m + 2 * n, markedL n m) := by
  intro d
  induction d with
  | zero =>
    intro i acc h0 hi hl hacc
    refine ev_step (f := fun _ => some (m + 2 * i, acc)) (fun k => ?_) ?_
    · simp only [laws_markLetterS.l0]; rw [if_neg (by omega)]
    · have e : acc = markedL n m := ext_getD z75 (by rw [hl]; simp [markedL]) (fun j hj => hacc j (by omega))
      rw [e, show m + 2 * i = m + 2 * n by omega]; exact ev_now _
  | succ d ih =>
    intro i acc h0 hi hl hacc
    refine ev_step (f := fun k => laws_markLetterS.l0 k (acc.set i.toNat ⟨m + 2 * i, m + 2 * i + 1⟩) (m + 2 * (i + 1)) (i + 1)) (fun k => ?_) ?_
    · have hi' : i.toNat < acc.length := by omega
      simp only [laws_markLetterS.l0, Option.bind_some, rd_T75]
      rw [if_pos (by omega), if_pos h0, w64 (by omega) (by omega), w64 (by omega) (by omega), w64 (by omega) (by omega), show m + 2 * i + 1 + 1 = m + 2 * (i + 1) by omega, List.set_set, getD_set _ _ _ _ _ hi']
      simp
    · refine ih (i + 1) _ (by omega) (by omega) (by simpa using hl) (fun j hj => ?_)
      rw [getD_set _ _ _ _ _ (by omega)]
      split
      · rename_i e
        subst e
        rw [markedL, getD_range_map _ _ _ _ (by omega), show ((i.toNat : Nat) : Int) = i by omega]
      · exact hacc j (by omega)
theorem markLetterS_ev (l : List S75) (m : Int) (hn : l.length ≤ 1048576) (hm : 0 ≤ m) (hm2 : m ≤ 1099511627776) : Ev (fun k => laws_markLetterS.f k l m) (m + 2 * (l.length : Int), markedL l.length m) := by
  unfold laws_markLetterS.f
  have := markLetterS_l0 l.length m hn hm hm2 l.length 0 l (by omega) (by omega) rfl (fun j hj => by omega)
  simpa using this

/-! letters: held -/
theorem heldLetterS_l0 (n : Nat) (m : Int) (hn : n ≤ 1048576) (hm : 0 ≤ m) (hm2 : m ≤ 1099511627776) : ∀ (d : Nat) (i : Int), 0 ≤ i → i + d = n → Ev (fun k => laws_heldLetterS.l0 k (markedL n m) (m + 2 * i) i) (m + 2 * n) := by
  intro d
  have hl : (markedL n m).length = n := by simp [markedL]
  induction d with
  | zero =>
    intro i h0 hi
    refine ev_step (f := fun _ => some (m + 2 * i)) (fun k => ?_) ?_
    · simp only [laws_heldLetterS.l0]; rw [if_neg (by omega)]
    · rw [show m + 2 * i = m + 2 * n by omega]; exact ev_now _
  | succ d ih =>
    intro i h0 hi
    refine ev_step (f := fun k => laws_heldLetterS.l0 k (markedL n m) (m + 2 * (i + 1)) (i + 1)) (fun k => ?_) (ih _ (by omega) (by omega))
    have e : rd_T75 (markedL n m) i = ⟨m + 2 * i, m + 2 * i + 1⟩ := by
      show (markedL n m).getD i.toNat z75 = _
      rw [markedL, getD_range_map _ _ _ _ (by omega), show ((i.toNat : Nat) : Int) = i by omega]
    simp only [laws_heldLetterS.l0, e, if_true]
    rw [if_pos (by omega), if_pos h0, w64 (by omega) (by omega), w64 (by omega) (by omega), w64 (by omega) (by omega), if_pos rfl, show m + 2 * i + 1 + 1 = m + 2 * (i + 1) by omega]
theorem heldLetterS_ev (n : Nat) (m : Int) (hn : n ≤ 1048576) (hm : 0 ≤ m) (hm2 : m ≤ 1099511627776) : Ev (fun k => laws_heldLetterS.f k (markedL n m) m) (m + 2 * (n : Int)) := by
  unfold laws_heldLetterS.f
  have := heldLetterS_l0 n m hn hm hm2 n 0 (by omega) (by omega)
  simpa using this

/-! spec.leGood -/
theorem caFriends_f (n : Int) : spec_caFriends.f n = some (decide (1 ≤ n) && decide (n ≤ 10)) := by
  unfold spec_caFriends.f spec_l1In.f
  by_cases h1 : 1 ≤ n <;> by_cases h2 : n ≤ 10 <;> simp [h1, h2]
theorem leLetter_f (n a b : Int) (h1 : 1 ≤ n) (h2 : n ≤ 10) : spec_leLetter.f n a b = some (isLetterB n a b) := by
  unfold spec_leLetter.f spec_l1In.f isLetterB
  rw [w64 (by omega) (by omega)]
  have e : ∀ x : Int, decide (x ≤ n - 1) = decide (x < n) := fun x => by rw [decide_eq_decide]; omega
  by_cases g1 : 0 ≤ a
  · by_cases g2 : a < n
    · have g2' : a ≤ n - 1 := by omega
      by_cases g3 : 0 ≤ b
      · by_cases g4 : b < n
        · have g4' : b ≤ n - 1 := by omega
          simp [g1, g2, g2', g3, g4, g4', bne]
        · have g4' : ¬ b ≤ n - 1 := by omega
          simp [g1, g2, g2', g3, g4, g4']
      · simp [g1, g2, g2', g3]
    · have g2' : ¬ a ≤ n - 1 := by omega
      simp [g1, g2, g2']
  · simp [g1]
theorem leGood_l0 (n : Int) (l : List S75) (h : l.length ≤ 1048576) (h1 : 1 ≤ n) (h2 : n ≤ 10) : ∀ (d : Nat) (i : Int), 0 ≤ i → i + d = l.length →
    Ev (fun k => spec_leGood.l0 k n l (l.length : Int) i) ((l.drop i.toNat).all fun c => isLetterB n c.f0 c.f1) := by
  intro d
  induction d with
  | zero =>
    intro i h0 hi
    refine ev_step (f := fun _ => some true) (fun k => ?_) ?_
    · simp only [spec_leGood.l0]; rw [if_neg (by omega)]
    · rw [List.drop_eq_nil_of_le (by omega)]; exact ev_now _
  | succ d ih =>
    intro i h0 hi
    have hd := drop_at l i.toNat z75 (by omega)
    cases hq : isLetterB n (l.getD i.toNat z75).f0 (l.getD i.toNat z75).f1 with
    | true =>
      refine ev_step (f := fun k => spec_leGood.l0 k n l (l.length : Int) (i + 1)) (fun k => ?_) ?_
      · simp only [spec_leGood.l0, rd_T75, leLetter_f n _ _ h1 h2, Option.bind_some, hq, if_true]
        rw [if_pos (by omega), if_pos h0, if_pos (by omega), w64 (by omega) (by omega)]
      · have := ih (i + 1) (by omega) (by omega)
        rw [hd, List.all_cons, hq, Bool.true_and]
        rwa [show (i + 1).toNat = i.toNat + 1 by omega] at this
    | false =>
      refine ev_step (f := fun _ => some false) (fun k => ?_) ?_
      · simp only [spec_leGood.l0, rd_T75, leLetter_f n _ _ h1 h2, Option.bind_some, hq]
        rw [if_pos (by omega), if_pos h0, if_pos (by omega), if_neg (by simp)]
      · rw [hd, List.all_cons, hq, Bool.false_and]; exact ev_now _
theorem leGood_ev (n : Int) (l : List S75) (h : l.length ≤ 1048576) : Ev (fun k => spec_leGood.f k n l) (areLettersB n l) := by
  unfold spec_leGood.f
  simp only [caFriends_f, Option.bind_some]
  by_cases h1 : 1 ≤ n ∧ n ≤ 10
  · obtain ⟨h1, h2⟩ := h1
    by_cases h3 : l.length ≤ 60
    · have e : areLettersB n l = l.all fun c => isLetterB n c.f0 c.f1 := by simp [areLettersB, h1, h2, h3]
      rw [e]
      have e2 : decide ((l.length : Int) > 60) = false := by rw [decide_eq_false_iff_not]; omega
      simp only [h1, h2, decide_true, Bool.and_self, if_true, e2]
      refine ev_step (f := fun k => spec_leGood.l0 k n l (l.length : Int) 0) (fun k => by simp [spec_leGood.j0]) ?_
      simpa using leGood_l0 n l h h1 h2 l.length 0 (by omega) (by omega)
    · have e : areLettersB n l = false := by simp [areLettersB, h3]
      rw [e]
      have e2 : decide ((l.length : Int) > 60) = true := by rw [decide_eq_true_eq]; omega
      simp only [h1, h2, decide_true, Bool.and_self, if_true, e2]
      exact ev_step (f := fun _ => some false) (fun k => by simp [spec_leGood.j0]) (ev_now _)
  · have e : areLettersB n l = false := by rw [Bool.eq_false_iff]; intro hh; simp [areLettersB] at hh; exact h1 ⟨hh.1, hh.2.1⟩
    have e1 : (decide (1 ≤ n) && decide (n ≤ 10)) = false := by rw [Bool.eq_false_iff]; simpa using h1
    rw [e]
    simp only [e1]
    exact ev_step (f := fun _ => some false) (fun k => by simp [spec_leGood.j0]) (ev_now _)
theorem areLettersB_true {n : Int} {cs : List S75} (h : areLettersB n cs = true) : 1 ≤ n ∧ n ≤ 10 ∧ cs.length ≤ 60 ∧ ∀ c ∈ cs, isLetterB n c.f0 c.f1 = true := by
  simp [areLettersB] at h
  exact h

def resP (n : Int) (cs : List S75) : List S75 × Bool := if areLettersB n cs = true then (cs.reverse.map swapL, true) else ([], false)
theorem resP_length (n : Int) (cs : List S75) (h : cs.length ≤ 1048576) : (resP n cs).1.length ≤ 1048576 := by
  unfold resP
  split
  · rw [List.length_map, List.length_reverse]; exact h
  · simp
theorem spec_l0 (cs : List S75) (h : cs.length ≤ 1048576) : ∀ (d : Nat), d ≤ cs.length → Ev (fun k => spec_BackLetters.l0 k cs ((cs.drop d).reverse.map swapL) ((d : Int) - 1)) (cs.reverse.map swapL, true) := by
  intro d
  induction d with
  | zero =>
    intro hd
    refine ev_step (f := fun _ => some (cs.reverse.map swapL, true)) (fun k => ?_) (ev_now _)
    simp only [spec_BackLetters.l0]; rw [if_neg (by omega)]; rfl
  | succ d ih =>
    intro hd
    refine ev_step (fun k => ?_) (ih (by omega))
    have e : rd_T75 cs (((d + 1 : Nat) : Int) - 1) = cs.getD d z75 := by show cs.getD (((d + 1 : Nat) : Int) - 1).toNat z75 = _; congr 1; omega
    simp only [spec_BackLetters.l0, e]
    rw [if_pos (by omega), if_pos (by omega), if_pos (by omega), if_pos (by rw [List.length_map, List.length_reverse, List.length_drop]; omega), w64 (by omega) (by omega), drop_at cs d z75 (by omega), List.reverse_cons, List.map_append, show ((d + 1 : Nat) : Int) - 1 - 1 = (d : Int) - 1 by omega]
    rfl
theorem spec_ev (n : Int) (cs : List S75) (h : cs.length ≤ 1048576) : Ev (fun k => spec_BackLetters.f k n cs) (resP n cs) := by
  unfold spec_BackLetters.f resP
  refine Ev.bind (leGood_ev n cs h) ?_
  cases hg : areLettersB n cs with
  | false => simpa using ev_now _
  | true =>
    have e : wrap64 ((cs.length : Int) - 1) = (cs.length : Int) - 1 := w64 (by omega) (by omega)
    simp only [if_true, e]
    have := spec_l0 cs h cs.length (Nat.le_refl _)
    rw [List.drop_eq_nil_of_le (Nat.le_refl _)] at this
    exact this
theorem impl_ev (n : Int) (cs : List S75) (h : cs.length ≤ 1048576) : Ev (fun _ : Nat => impl_BackLetters.f n cs) (resP n cs) := by
  unfold impl_BackLetters.f resP impl_AreLetters.f
  simp only [Option.bind_some]
  cases hg : areLettersB n cs with
  | false => simpa using ev_now _
  | true =>
    simp only [if_true, if_pos h]
    exact ev_now _
theorem FnExactBackLetters : ∀ (a0 : Int) (l1 : (List S77)), (Lit.int .i64 a0).wf = true → l1.length ≤ 9223372036854775807 → ∃ k, laws_FnExactBackLetters.f k a0 l1 = some true := by
  intro a0 l1 w0 hl1
  apply Ev.rounds
  unfold laws_FnExactBackLetters.f
  by_cases h1 : l1.length ≤ 1048576
  · simp only [szLetterS_small l1 h1, Option.bind_some]
    have h0 : ¬ (1048576 - (l1.length : Int)) < 0 := by omega
    simp only [if_neg h0]
    have g1 : (toLetters l1).length ≤ 1048576 := by rw [toLetters_length]; exact h1
    refine Ev.bind (toLetterS_ev l1 h1) ?_
    refine Ev.bind (spec_ev a0 (toLetters l1) g1) ?_
    refine Ev.bind (toLetterS_ev l1 h1) ?_
    refine Ev.bind (impl_ev a0 (toLetters l1) g1) ?_
    have hr : (resP a0 (toLetters l1)).1.length ≤ 1048576 := resP_length a0 (toLetters l1) g1
    have hm2 : ¬ (1 + 2 * (((resP a0 (toLetters l1)).1.length : Nat) : Int)) < 0 := by omega
    refine Ev.bind (eqLetterS_ev _ hr) ?_
    simp only [bne_self_eq_false, Bool.false_eq_true, if_false, if_true]
    refine Ev.step (fun k => by simp only [laws_FnExactBackLetters.j0, Bool.false_eq_true, if_false] <;> exact rfl) ?_
    refine Ev.bind (toLetterS_ev l1 h1) ?_
    refine Ev.bind (eqLetterS_ev _ g1) ?_
    simp only [if_true]
    refine Ev.bind (markLetterS_ev _ 1 g1 (by omega) (by omega)) ?_
    have hm11 : ¬ (1 + 2 * (((toLetters l1).length : Nat) : Int)) < 0 := by omega
    simp only [if_neg hm11]
    refine Ev.bind (eqLetterS_ev _ hr) ?_
    simp only [bne_self_eq_false, Bool.false_eq_true, if_false, if_true]
    refine Ev.step (fun k => by simp only [laws_FnExactBackLetters.j1, Bool.false_eq_true, if_false] <;> exact rfl) ?_
    refine Ev.bind (markLetterS_ev _ 1 hr (by omega) (by omega)) ?_
    refine Ev.bind (heldLetterS_ev _ 1 hr (by omega) (by omega)) ?_
    simp only [if_neg hm2, if_true]
    refine Ev.bind (toLetterS_ev l1 h1) ?_
    refine Ev.bind (impl_ev a0 (toLetters l1) g1) ?_
    refine Ev.bind (eqLetterS_ev _ hr) ?_
    simp only [bne_self_eq_false, Bool.false_eq_true, if_false, if_true]
    refine Ev.step (fun k => by simp only [laws_FnExactBackLetters.j2, Bool.false_eq_true, if_false] <;> exact rfl) ?_
    refine Ev.bind (heldLetterS_ev _ 1 hr (by omega) (by omega)) ?_
    simp only [if_neg hm2, if_true]
    exact ev_now _
  · simp only [szLetterS_great l1 h1 hl1, Option.bind_some]
    exact ev_now _

end Go.Proofs.Ytelhjfalkhmhkaa.Pure
