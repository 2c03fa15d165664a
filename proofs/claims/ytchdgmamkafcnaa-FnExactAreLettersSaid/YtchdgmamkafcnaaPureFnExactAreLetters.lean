/- The pure side of FnExactAreLetters: program and reference agree at every argument. No condition beside what an argument is. -/
import Derived.Test.YtchdgmamkafcnaaPFnExactAreLettersx6
import Derived.Test.YtchdgmamkafcnaaPBase
namespace Go.Proofs.Ytchdgmamkafcnaa.Pure
open Go.RowKit Go.Proofs.Ytchdgmamkafcnaa.PFnExactAreLetters Go.Proofs.YtchdgmamkafcnaaW.PrintWords Go.Proofs.YtchdgmamkafcnaaW.PrintLast Go.Proofs.YtchdgmamkafcnaaW.PrintMore Go.Proofs.Ytchdgmamkafcnaa.PB
set_option linter.unusedSimpArgs false
set_option linter.unusedVariables false
/-! letters: read, compared, marked -/
def toLetters (l : List S61) : List S59 := l.map fun c => ⟨c.f0, c.f1⟩
theorem toLetters_length (l : List S61) : (toLetters l).length = l.length := by simp [toLetters]

theorem szLetterS_small (l : List S61) (h : l.length ≤ 1048576) : laws_szLetterS.f l 1048576 = some (1048576 - (l.length : Int)) := by
  unfold laws_szLetterS.f
  rw [w64 (by omega) (by omega), if_neg (by omega)]
theorem szLetterS_great (l : List S61) (h : ¬ l.length ≤ 1048576) (h2 : l.length ≤ 9223372036854775807) : laws_szLetterS.f l 1048576 = some (-1) := by
  unfold laws_szLetterS.f
  rw [w64 (by omega) (by omega), if_pos (by omega)]

theorem toLetterS_l0 (l : List S61) (h : l.length ≤ 1048576) : ∀ (d : Nat) (i : Int) (acc : List S59), 0 ≤ i → i + d = l.length → acc.length = l.length →
    (∀ j : Nat, (j : Int) < i → acc.getD j z59 = (toLetters l).getD j z59) → Ev (fun k => laws_toLetterS.l0 k l acc i) (toLetters l) := by
  intro d
  induction d with
  | zero =>
    intro i acc h0 hi hl hacc
    refine ev_step (f := fun _ => some acc) (fun k => ?_) ?_
    · simp only [laws_toLetterS.l0]; rw [if_neg (by omega)]
    · have : acc = toLetters l := ext_getD z59 (by rw [hl, toLetters_length]) (fun j hj => hacc j (by omega))
      rw [this]; exact ev_now _
  | succ d ih =>
    intro i acc h0 hi hl hacc
    refine ev_step (f := fun k => laws_toLetterS.l0 k l (acc.set i.toNat ⟨(l.getD i.toNat z61).f0, (l.getD i.toNat z61).f1⟩) (i + 1)) (fun k => ?_) ?_
    · simp only [laws_toLetterS.l0, laws_toLetter.f, rd_T61, Option.bind_some]
      rw [if_pos (by omega), if_pos h0, if_pos (by omega), w64 (by omega) (by omega)]
    · refine ih (i + 1) _ (by omega) (by omega) (by simpa using hl) (fun j hj => ?_)
      rw [getD_set _ _ _ _ _ (by omega)]
      split
      · rename_i e
        subst e
        rw [toLetters, getD_map (fun c : S61 => (⟨c.f0, c.f1⟩ : S59)) l i.toNat z61 z59 (by omega)]
      · exact hacc j (by omega)
theorem toLetterS_ev (l : List S61) (h : l.length ≤ 1048576) : Ev (fun k => laws_toLetterS.f k l) (toLetters l) := by
  unfold laws_toLetterS.f
  have h1 : (0 : Int) ≤ (l.length : Int) := by omega
  have h2 : ((l.length : Int)).toNat ≤ 17592186044416 := by omega
  simp only [if_pos h1, if_pos h2]
  exact toLetterS_l0 l h l.length 0 _ (by omega) (by omega) (by simp) (fun j hj => by omega)

theorem eqLetterS_l0 (a : List S59) (h : a.length ≤ 1048576) : ∀ (d : Nat) (i : Int), 0 ≤ i → i + d = a.length → Ev (fun k => laws_eqLetterS.l0 k a a i) true := by
  intro d
  induction d with
  | zero =>
    intro i h0 hi
    refine ev_step (f := fun _ => some true) (fun k => ?_) (ev_now _)
    simp only [laws_eqLetterS.l0]; rw [if_neg (by omega)]
  | succ d ih =>
    intro i h0 hi
    refine ev_step (f := fun k => laws_eqLetterS.l0 k a a (i + 1)) (fun k => ?_) (ih _ (by omega) (by omega))
    simp only [laws_eqLetterS.l0, laws_eqLetter.f, if_true, Option.bind_some]
    rw [if_pos (by omega), if_pos h0, if_pos (by omega), w64 (by omega) (by omega)]
theorem eqLetterS_ev (a : List S59) (h : a.length ≤ 1048576) : Ev (fun k => laws_eqLetterS.f k a a) true := by
  unfold laws_eqLetterS.f
  simp only [if_true]
  exact eqLetterS_l0 a h a.length 0 (by omega) (by omega)

/-! spec.leGood -/
theorem caFriends_f (n : Int) : spec_caFriends.f n = some (decide (1 ≤ n) && decide (n ≤ 10)) := by
  unfold spec_caFriends.f spec_l1In.f
  by_cases h1 : 1 ≤ n <;> by_cases h2 : n ≤ 10 <;> simp [h1, h2]
theorem leLetter_f (n a b : Int) (h1 : 1 ≤ n) (h2 : n ≤ 10) : spec_leLetter.f n a b = some (isLetterB n a b) := by
  unfold spec_leLetter.f spec_l1In.f isLetterB
  rw [w64 (by omega) (by omega)]
  have e : ∀ x : Int, decide (x ≤ n - 1) = decide (x < n) := fun x => by rw [decide_eq_decide]; omega
  by_cases g1 : 0 ≤ a
  · by_cases g2 : a < n
    · have g2' : a ≤ n - 1 := by omega
      by_cases g3 : 0 ≤ b
      · by_cases g4 : b < n
        · have g4' : b ≤ n - 1 := by omega
          simp [g1, g2, g2', g3, g4, g4', bne]
        · have g4' : ¬ b ≤ n - 1 := by omega
          simp [g1, g2, g2', g3, g4, g4']
      · simp [g1, g2, g2', g3]
    · have g2' : ¬ a ≤ n - 1 := by omega
      simp [g1, g2, g2']
  · simp [g1]
theorem leGood_l0 (n : Int) (l : List S59) (h : l.length ≤ 1048576) (h1 : 1 ≤ n) (h2 : n ≤ 10) : ∀ (d : Nat) (i : Int), 0 ≤ i → i + d = l.length →
    Ev (fun k => spec_leGood.l0 k n l (l.length : Int) i) ((l.drop i.toNat).all fun c => isLetterB n c.f0 c.f1) := by
  intro d
  induction d with
  | zero =>
    intro i h0 hi
    refine ev_step (f := fun _ => some true) (fun k => ?_) ?_
    · simp only [spec_leGood.l0]; rw [if_neg (by omega)]
    · rw [List.drop_eq_nil_of_le (by omega)]; exact ev_now _
  | succ d ih =>
    intro i h0 hi
    have hd := drop_at l i.toNat z59 (by omega)
    cases hq : isLetterB n (l.getD i.toNat z59).f0 (l.getD i.toNat z59).f1 with
    | true =>
      refine ev_step (f := fun k => spec_leGood.l0 k n l (l.length : Int) (i + 1)) (fun k => ?_) ?_
      · simp only [spec_leGood.l0, rd_T59, leLetter_f n _ _ h1 h2, Option.bind_some, hq, if_true]
        rw [if_pos (by omega), if_pos h0, if_pos (by omega), w64 (by omega) (by omega)]
      · have := ih (i + 1) (by omega) (by omega)
        rw [hd, List.all_cons, hq, Bool.true_and]
        rwa [show (i + 1).toNat = i.toNat + 1 by omega] at this
    | false =>
      refine ev_step (f := fun _ => some false) (fun k => ?_) ?_
      · simp only [spec_leGood.l0, rd_T59, leLetter_f n _ _ h1 h2, Option.bind_some, hq]
        rw [if_pos (by omega), if_pos h0, if_pos (by omega), if_neg (by simp)]
      · rw [hd, List.all_cons, hq, Bool.false_and]; exact ev_now _
theorem leGood_ev (n : Int) (l : List S59) (h : l.length ≤ 1048576) : Ev (fun k => spec_leGood.f k n l) (areLettersB n l) := by
  unfold spec_leGood.f
  simp only [caFriends_f, Option.bind_some]
  by_cases h1 : 1 ≤ n ∧ n ≤ 10
  · obtain ⟨h1, h2⟩ := h1
    by_cases h3 : l.length ≤ 60
    · have e : areLettersB n l = l.all fun c => isLetterB n c.f0 c.f1 := by simp [areLettersB, h1, h2, h3]
      rw [e]
      have e2 : decide ((l.length : Int) > 60) = false := by rw [decide_eq_false_iff_not]; omega
      simp only [h1, h2, decide_true, Bool.and_self, if_true, e2]
      refine ev_step (f := fun k => spec_leGood.l0 k n l (l.length : Int) 0) (fun k => by simp [spec_leGood.j0]) ?_
      simpa using leGood_l0 n l h h1 h2 l.length 0 (by omega) (by omega)
    · have e : areLettersB n l = false := by simp [areLettersB, h3]
      rw [e]
      have e2 : decide ((l.length : Int) > 60) = true := by rw [decide_eq_true_eq]; omega
      simp only [h1, h2, decide_true, Bool.and_self, if_true, e2]
      exact ev_step (f := fun _ => some false) (fun k => by simp [spec_leGood.j0]) (ev_now _)
  · have e : areLettersB n l = false := by rw [Bool.eq_false_iff]; intro hh; simp [areLettersB] at hh; exact h1 ⟨hh.1, hh.2.1⟩
    have e1 : (decide (1 ≤ n) && decide (n ≤ 10)) = false := by rw [Bool.eq_false_iff]; simpa using h1
    rw [e]
    simp only [e1]
    exact ev_step (f := fun _ => some false) (fun k => by simp [spec_leGood.j0]) (ev_now _)
theorem areLettersB_true {n : Int} {cs : List S59} (h : areLettersB n cs = true) : 1 ≤ n ∧ n ≤ 10 ∧ cs.length ≤ 60 ∧ ∀ c ∈ cs, isLetterB n c.f0 c.f1 = true := by
  simp [areLettersB] at h
  exact h

def resP (n : Int) (cs : List S59) : Bool := areLettersB n cs
theorem impl_ev (n : Int) (cs : List S59) (h : cs.length ≤ 1048576) : Ev (fun _ => impl_AreLetters.f n cs) (resP n cs) := ev_now _
theorem spec_ev (n : Int) (cs : List S59) (h : cs.length ≤ 1048576) : Ev (fun k => spec_AreLetters.f k n cs) (resP n cs) := by
  unfold spec_AreLetters.f
  exact Ev.bind (leGood_ev n cs h) (ev_now _)
theorem FnExactAreLetters : ∀ (a0 : Int) (l1 : (List S61)), (Lit.int .i64 a0).wf = true → l1.length ≤ 9223372036854775807 → ∃ k, laws_FnExactAreLetters.f k a0 l1 = some true := by
  intro a0 l1 w0 hl1
  apply Ev.rounds
  unfold laws_FnExactAreLetters.f
  by_cases h1 : l1.length ≤ 1048576
  · simp only [szLetterS_small l1 h1, Option.bind_some]
    have h0 : ¬ (1048576 - (l1.length : Int)) < 0 := by omega
    simp only [if_neg h0]
    have g1 : (toLetters l1).length ≤ 1048576 := by rw [toLetters_length]; exact h1
    refine Ev.bind (toLetterS_ev l1 h1) ?_
    refine Ev.bind (spec_ev a0 (toLetters l1) g1) ?_
    refine Ev.bind (toLetterS_ev l1 h1) ?_
    refine Ev.bind (impl_ev a0 (toLetters l1) g1) ?_
    simp only [bne_self_eq_false, Bool.false_eq_true, if_false, if_true]
    refine Ev.bind (toLetterS_ev l1 h1) ?_
    refine Ev.bind (eqLetterS_ev _ g1) ?_
    simp only [if_true]
    exact ev_now _
  · simp only [szLetterS_great l1 h1 hl1, Option.bind_some]
    exact ev_now _

end Go.Proofs.Ytchdgmamkafcnaa.Pure
