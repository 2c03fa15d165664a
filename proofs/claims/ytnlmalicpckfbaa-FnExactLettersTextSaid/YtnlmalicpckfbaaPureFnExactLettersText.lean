/- The pure side of FnExactLettersText: program and reference agree at every argument. No condition beside what an argument is. -/
import Derived.Test.YtnlmalicpckfbaaPFnExactLettersTextx9
import Derived.Test.YtnlmalicpckfbaaPBase
namespace Go.Proofs.Ytnlmalicpckfbaa.Pure
open Go.RowKit Go.Proofs.Ytnlmalicpckfbaa.PFnExactLettersText Go.Proofs.YtnlmalicpckfbaaW.PrintWords Go.Proofs.YtnlmalicpckfbaaW.PrintLast Go.Proofs.YtnlmalicpckfbaaW.PrintMore Go.Proofs.Ytnlmalicpckfbaa.PB
set_option linter.unusedSimpArgs false
set_option linter.unusedVariables false
/-! letters: read, compared, marked -/
def toLetters (l : List S92) : List S79 := l.map fun c => ⟨c.f0, c.f1⟩
theorem toLetters_length (l : List S92) : (toLetters l).length = l.length := by simp [toLetters]

theorem szLetterS_small (l : List S92) (h : l.length ≤ 1048576) : laws_szLetterS.f l 1048576 = some (1048576 - (l.length : Int)) := by
  unfold laws_szLetterS.f
  rw [w64 (by omega) (by omega), if_neg (by omega)]
theorem szLetterS_great (l : List S92) (h : ¬ l.length ≤ 1048576) (h2 : l.length ≤ 9223372036854775807) : laws_szLetterS.f l 1048576 = some (-1) := by
  unfold laws_szLetterS.f
  rw [w64 (by omega) (by omega), if_pos (by omega)]

theorem toLetterS_l0 (l : List S92) (h : l.length ≤ 1048576) : ∀ (d : Nat) (i : Int) (acc : List S79), 0 ≤ i → i + d = l.length → acc.length = l.length →
    (∀ j : Nat, (j : Int) < i → acc.getD j z79 = (toLetters l).getD j z79) → Ev (fun k => laws_toLetterS.l0 k l acc i) (toLetters l) := by
  intro d
  induction d with
  | zero =>
    intro i acc h0 hi hl hacc
    refine ev_step (f := fun _ => some acc) (fun k => ?_) ?_
    · simp only [laws_toLetterS.l0]; rw [if_neg (by omega)]
    · have : acc = toLetters l := ext_getD z79 (by rw [hl, toLetters_length]) (fun j hj => hacc j (by omega))
      rw [this]; exact ev_now _
  | succ d ih =>
    intro i acc h0 hi hl hacc
    refine ev_step (f := fun k => laws_toLetterS.l0 k l (acc.set i.toNat ⟨(l.getD i.toNat z92).f0, (l.getD i.toNat z92).f1⟩) (i + 1)) (fun k => ?_) ?_
    · simp only [laws_toLetterS.l0, laws_toLetter.f, rd_T92, Option.bind_some]
      rw [if_pos (by omega), if_pos h0, if_pos (by omega), w64 (by omega) (by omega)]
    · refine ih (i + 1) _ (by omega) (by omega) (by simpa using hl) (fun j hj => ?_)
      rw [getD_set _ _ _ _ _ (by omega)]
      split
      · rename_i e
        subst e
        rw [toLetters, getD_map (fun c : S92 => (⟨c.f0, c.f1⟩ : S79)) l i.toNat z92 z79 (by omega)]
      · exact hacc j (by omega)
theorem toLetterS_ev (l : List S92) (h : l.length ≤ 1048576) : Ev (fun k => laws_toLetterS.f k l) (toLetters l) := by
  unfold laws_toLetterS.f
  have h1 : (0 : Int) ≤ (l.length : Int) := by omega
  have h2 : ((l.length : Int)).toNat ≤ 17592186044416 := by omega
  simp only [if_pos h1, if_pos h2]
  exact toLetterS_l0 l h l.length 0 _ (by omega) (by omega) (by simp) (fun j hj => by omega)

theorem eqLetterS_l0 (a : List S79) (h : a.length ≤ 1048576) : ∀ (d : Nat) (i : Int), 0 ≤ i → i + d = a.length → Ev (fun k => laws_eqLetterS.l0 k a a i) true := by
  intro d
  induction d with
  | zero =>
    intro i h0 hi
    refine ev_step (f := fun _ => some true) (fun k => ?_) (ev_now _)
    simp only [laws_eqLetterS.l0]; rw [if_neg (by omega)]
  | succ d ih =>
    intro i h0 hi
    refine ev_step (f := fun k => laws_eqLetterS.l0 k a a (i + 1)) (fun k => ?_) (ih _ (by omega) (by omega))
    simp only [laws_eqLetterS.l0, laws_eqLetter.f, if_true, Option.bind_some]
    rw [if_pos (by omega), if_pos h0, if_pos (by omega), w64 (by omega) (by omega)]
theorem eqLetterS_ev (a : List S79) (h : a.length ≤ 1048576) : Ev (fun k => laws_eqLetterS.f k a a) true := by
  unfold laws_eqLetterS.f
  simp only [if_true]
  exact eqLetterS_l0 a h a.length 0 (by omega) (by omega)

/-! spec.leGood -/
theorem caFriends_f (n : Int) : spec_caFriends.f n = some (decide (1 ≤ n) && decide (n ≤ 10)) := by
  unfold spec_caFriends.f spec_l1In.f
  by_cases h1 : 1 ≤ n <;> by_cases h2 : n ≤ 10 <;> simp [h1, h2]
theorem leLetter_f (n a b : Int) (h1 : 1 ≤ n) (h2 : n ≤ 10) : spec_leLetter.f n a b = some (isLetterB n a b) := by
  unfold spec_leLetter.f spec_l1In.f isLetterB
  rw [w64 (by omega) (by omega)]
  have e : ∀ x : Int, decide (x ≤ n - 1) = decide (x < n) := fun x => by rw [decide_eq_decide]; omega
  by_cases g1 : 0 ≤ a
  · by_cases g2 : a < n
    · have g2' : a ≤ n - 1 := by omega
      by_cases g3 : 0 ≤ b
      · by_cases g4 : b < n
        · have g4' : b ≤ n - 1 := by omega
          simp [g1, g2, g2', g3, g4, g4', bne]
        · have g4' : ¬ b ≤ n - 1 := by omega
          simp [g1, g2, g2', g3, g4, g4']
      · simp [g1, g2, g2', g3]
    · have g2' : ¬ a ≤ n - 1 := by omega
      simp [g1, g2, g2']
  · simp [g1]
theorem leGood_l0 (n : Int) (l : List S79) (h : l.length ≤ 1048576) (h1 : 1 ≤ n) (h2 : n ≤ 10) : ∀ (d : Nat) (i : Int), 0 ≤ i → i + d = l.length →
    Ev (fun k => spec_leGood.l0 k n l (l.length : Int) i) ((l.drop i.toNat).all fun c => isLetterB n c.f0 c.f1) := by
  intro d
  induction d with
  | zero =>
    intro i h0 hi
    refine ev_step (f := fun _ => some true) (fun k => ?_) ?_
    · simp only [spec_leGood.l0]; rw [if_neg (by omega)]
    · rw [List.drop_eq_nil_of_le (by omega)]; exact ev_now _
  | succ d ih =>
    intro i h0 hi
    have hd := drop_at l i.toNat z79 (by omega)
    cases hq : isLetterB n (l.getD i.toNat z79).f0 (l.getD i.toNat z79).f1 with
    | true =>
      refine ev_step (f := fun k => spec_leGood.l0 k n l (l.length : Int) (i + 1)) (fun k => ?_) ?_
      · simp only [spec_leGood.l0, rd_T79, leLetter_f n _ _ h1 h2, Option.bind_some, hq, if_true]
        rw [if_pos (by omega), if_pos h0, if_pos (by omega), w64 (by omega) (by omega)]
      · have := ih (i + 1) (by omega) (by omega)
        rw [hd, List.all_cons, hq, Bool.true_and]
        rwa [show (i + 1).toNat = i.toNat + 1 by omega] at this
    | false =>
      refine ev_step (f := fun _ => some false) (fun k => ?_) ?_
      · simp only [spec_leGood.l0, rd_T79, leLetter_f n _ _ h1 h2, Option.bind_some, hq]
        rw [if_pos (by omega), if_pos h0, if_pos (by omega), if_neg (by simp)]
      · rw [hd, List.all_cons, hq, Bool.false_and]; exact ev_now _
theorem leGood_ev (n : Int) (l : List S79) (h : l.length ≤ 1048576) : Ev (fun k => spec_leGood.f k n l) (areLettersB n l) := by
  unfold spec_leGood.f
  simp only [caFriends_f, Option.bind_some]
  by_cases h1 : 1 ≤ n ∧ n ≤ 10
  · obtain ⟨h1, h2⟩ := h1
    by_cases h3 : l.length ≤ 60
    · have e : areLettersB n l = l.all fun c => isLetterB n c.f0 c.f1 := by simp [areLettersB, h1, h2, h3]
      rw [e]
      have e2 : decide ((l.length : Int) > 60) = false := by rw [decide_eq_false_iff_not]; omega
      simp only [h1, h2, decide_true, Bool.and_self, if_true, e2]
      refine ev_step (f := fun k => spec_leGood.l0 k n l (l.length : Int) 0) (fun k => by simp [spec_leGood.j0]) ?_
      simpa using leGood_l0 n l h h1 h2 l.length 0 (by omega) (by omega)
    · have e : areLettersB n l = false := by simp [areLettersB, h3]
      rw [e]
      have e2 : decide ((l.length : Int) > 60) = true := by rw [decide_eq_true_eq]; omega
      simp only [h1, h2, decide_true, Bool.and_self, if_true, e2]
      exact ev_step (f := fun _ => some false) (fun k => by simp [spec_leGood.j0]) (ev_now _)
  · have e : areLettersB n l = false := by rw [Bool.eq_false_iff]; intro hh; simp [areLettersB] at hh; exact h1 ⟨hh.1, hh.2.1⟩
    have e1 : (decide (1 ≤ n) && decide (n ≤ 10)) = false := by rw [Bool.eq_false_iff]; simpa using h1
    rw [e]
    simp only [e1]
    exact ev_step (f := fun _ => some false) (fun k => by simp [spec_leGood.j0]) (ev_now _)
theorem areLettersB_true {n : Int} {cs : List S79} (h : areLettersB n cs = true) : 1 ≤ n ∧ n ≤ 10 ∧ cs.length ≤ 60 ∧ ∀ c ∈ cs, isLetterB n c.f0 c.f1 = true := by
  simp [areLettersB] at h
  exact h

/-! texts: pieces with a byte between them -/
def joinT (s : UInt8) (xs : List ByteArray) : ByteArray := ⟨(Lib.join (xs.map (·.data.toList)) [s]).toArray⟩
theorem bext {a b : ByteArray} (h : a.data.toList = b.data.toList) : a = b := by
  cases a with | mk a => cases b with | mk b => exact congrArg ByteArray.mk (Array.ext' h)
theorem bapp (a b : ByteArray) : (a ++ b).data.toList = a.data.toList ++ b.data.toList := by rw [ByteArray.data_append, Array.toList_append]
theorem bsize (a : ByteArray) : a.size = a.data.toList.length := (Array.length_toList).symm
theorem bsize_app (a b : ByteArray) : (a ++ b).size = a.size + b.size := by rw [bsize, bsize, bsize, bapp, List.length_append]
theorem joinT_nil (s : UInt8) : joinT s [] = ⟨#[]⟩ := rfl
theorem joinT_one (s : UInt8) (x : ByteArray) : joinT s [x] = x := bext (by simp [joinT, Lib.join_one])
theorem joinT_snoc (s : UInt8) (xs : List ByteArray) (y : ByteArray) (h : xs ≠ []) : joinT s (xs ++ [y]) = (joinT s xs ++ ⟨#[s]⟩) ++ y := by
  cases xs with
  | nil => exact absurd rfl h
  | cons x r =>
    apply bext
    rw [bapp, bapp]
    simp only [joinT, List.cons_append, List.map_cons, List.map_append, List.map_nil, Lib.join_cons, Lib.joinTail]
    simp
theorem joinT_size (s : UInt8) (m : Nat) : ∀ (xs : List ByteArray), (∀ x ∈ xs, x.size ≤ m) → (joinT s xs).size ≤ xs.length * (m + 1) := by
  intro xs h
  cases xs with
  | nil => rw [joinT_nil]; exact Nat.zero_le _
  | cons x r =>
    have hl : ∀ (l : List ByteArray), (∀ x ∈ l, x.size ≤ m) → Lib.lens (l.map (·.data.toList)) ≤ l.length * m := by
      intro l
      induction l with
      | nil => intro _; simp [Lib.lens]
      | cons y l ih =>
        intro h
        have h1 := ih (fun x hx => h x (List.mem_cons_of_mem _ hx))
        have h2 := h y List.mem_cons_self
        rw [bsize] at h2
        simp only [Lib.lens, List.map_cons, List.sum_cons, List.length_cons, Nat.add_mul, Nat.one_mul] at h1 ⊢
        omega
    have h1 := hl (x :: r) h
    rw [bsize]
    simp only [joinT, List.map_cons] at h1 ⊢
    rw [Lib.join_length]
    simp only [List.length_map, List.length_cons, List.length_nil] at h1 ⊢
    have e1 : (r.length + 1) * (m + 1) = (r.length + 1) * m + (r.length + 1) := by rw [Nat.mul_add, Nat.mul_one]
    omega
theorem joinT_step (s : UInt8) {α : Type} (f : α → ByteArray) (l : List α) (i : Nat) (d : α) (h0 : 0 < i) (hi : i < l.length) : joinT s ((l.take (i + 1)).map f) = (joinT s ((l.take i).map f) ++ ⟨#[s]⟩) ++ f (l.getD i d) := by
  rw [take_at l i d hi, List.map_append, List.map_cons, List.map_nil, joinT_snoc]
  intro he
  have h1 : ((l.take i).map f).length = 0 := by rw [he]; rfl
  rw [List.length_map, List.length_take] at h1
  omega
theorem joinT_step0 (s : UInt8) {α : Type} (f : α → ByteArray) (l : List α) (d : α) (hi : 0 < l.length) : joinT s ((l.take (0 + 1)).map f) = f (l.getD 0 d) := by
  rw [take_at l 0 d hi]
  simp [joinT_one]
theorem join_f (s : UInt8) (xs : List ByteArray) (m : Nat) (h : ∀ x ∈ xs, x.size ≤ m) (hb : xs.length * (m + 1) ≤ 140737488355328) : strings_Join.f xs ⟨#[s]⟩ = some (joinT s xs) := by
  have h1 := joinT_size s m xs h
  rw [bsize] at h1
  unfold strings_Join.f
  have e : ((joinT s xs).data.toList).length = (Lib.join (xs.map (·.data.toList)) (⟨#[s]⟩ : ByteArray).data.toList).length := by simp [joinT]
  have h2 : xs.length ≤ xs.length * (m + 1) := Nat.le_mul_of_pos_right _ (by omega)
  rw [if_pos ⟨by rw [← e]; omega, by omega⟩]
  rfl
def numT (a : Int) : ByteArray := strOfNums [48 + a]
theorem numT_size (a : Int) : (numT a).size = 1 := strOfNums_size _
theorem l1Num_ev (a : Int) (h0 : 0 ≤ a) (h1 : a < 10) : Ev (fun k => spec_l1Num.f k a) (numT a) := by
  refine ev_step (f := fun _ => some (numT a)) (fun k => ?_) (ev_now _)
  simp only [spec_l1Num.f]
  rw [if_pos h1, w64 (by omega) (by omega), show (48 + a) % 256 = 48 + a by omega]
  rfl

theorem isLetterB_nums {a b : Int} (h : isLetterB 10 a b = true) : 0 ≤ a ∧ a < 10 ∧ 0 ≤ b ∧ b < 10 := by
  simp [isLetterB] at h
  omega
def txtL (c : S79) : ByteArray := (numT c.f0 ++ ⟨#[62]⟩) ++ numT c.f1
theorem txtL_size (c : S79) : (txtL c).size = 3 := by rw [txtL, bsize_app, bsize_app, numT_size, numT_size]; rfl
theorem txtL_of (a b : Int) (h : 0 ≤ a ∧ a < 10) (g : 0 ≤ b ∧ b < 10) : strOfNums [(wrap64 (48 + a)) % 256, 62, (wrap64 (48 + b)) % 256] = (numT a ++ ⟨#[62]⟩) ++ numT b := by
  rw [w64 (by omega) (by omega), w64 (by omega) (by omega), show (48 + a) % 256 = 48 + a by omega, show (48 + b) % 256 = 48 + b by omega]
  apply bext
  rw [bapp, bapp]
  rfl
def textL (l : List S79) : ByteArray := joinT 45 (l.map txtL)
theorem textL_size (l : List S79) : (textL l).size ≤ l.length * 4 := by
  have := joinT_size 45 3 (l.map txtL) (fun x hx => by obtain ⟨c, _, rfl⟩ := List.mem_map.1 hx; rw [txtL_size]; exact Nat.le_refl _)
  rwa [List.length_map] at this
theorem leText_l0 (l : List S79) (hl : l.length ≤ 1048576) (hc : ∀ c ∈ l, isLetterB 10 c.f0 c.f1 = true) : ∀ (d i : Nat), i + d = l.length →
    Ev (fun k => spec_leText.l0 k (joinT 45 ((l.take i).map txtL)) l (l.length : Int) (i : Int)) (textL l) := by
  intro d
  induction d with
  | zero =>
    intro i hi
    have hi' : ¬ (i : Int) < (l.length : Int) := by omega
    refine Ev.step (fun k => by simp only [spec_leText.l0, if_neg hi'] <;> exact rfl) ?_
    rw [List.take_of_length_le (by omega)]
    exact ev_now _
  | succ d ih =>
    intro i hi
    have hlt : i < l.length := by omega
    have q1 : (i : Int) < (l.length : Int) := by omega
    have q2 : (0 : Int) ≤ (i : Int) := by omega
    have hm := hc (l.getD i z79) (by rw [getD_at _ _ _ hlt]; exact List.getElem_mem hlt)
    have hsz : (joinT 45 ((l.take i).map txtL)).size ≤ 4 * 1048576 := by
      have := textL_size (l.take i)
      rw [List.length_take] at this
      show (textL (l.take i)).size ≤ _
      omega
    have hn := ih (i + 1) (by omega)
    have hc1 := isLetterB_nums hm
    have ei := w64 (show -9223372036854775808 ≤ (i : Int) + 1 by omega) (by omega)
    have er : rd_T79 l (i : Int) = l.getD i z79 := rfl
    have e1 := l1Num_ev _ hc1.1 hc1.2.1
    have e2 := l1Num_ev _ hc1.2.2.1 hc1.2.2.2
    have s1 : ∀ x : UInt8, ByteArray.size ⟨#[x]⟩ = 1 := fun _ => rfl
    by_cases h0 : i = 0
    · subst h0
      have q3 : ¬ ((0 : Nat) : Int) > 0 := by omega
      refine Ev.step (fun k => by simp only [spec_leText.l0, if_pos q1, if_pos q2, if_neg q3, er, ei] <;> exact rfl) ?_
      refine Ev.bind e1 ?_
      have p0 : (numT (l.getD 0 z79).f0).size + 1 ≤ 9223372036854775807 := by rw [numT_size]; omega
      simp only [if_pos p0]
      refine Ev.bind e2 ?_
      have p1 : (numT (l.getD 0 z79).f0 ++ ⟨#[62]⟩).size + (numT (l.getD 0 z79).f1).size ≤ 9223372036854775807 := by rw [bsize_app, numT_size, numT_size, s1]; omega
      have p2 : (joinT 45 ((l.take 0).map txtL)).size + ((numT (l.getD 0 z79).f0 ++ ⟨#[62]⟩) ++ numT (l.getD 0 z79).f1).size ≤ 9223372036854775807 := by rw [bsize_app, bsize_app, numT_size, numT_size, s1]; omega
      simp only [if_pos p1, if_pos p2]
      rw [joinT_step0 45 txtL l z79 hlt] at hn
      have e3 : joinT 45 ((l.take 0).map txtL) ++ ((numT (l.getD 0 z79).f0 ++ ⟨#[62]⟩) ++ numT (l.getD 0 z79).f1) = txtL (l.getD 0 z79) := by
        apply bext; rw [bapp]; rfl
      rw [e3]
      exact hn
    · have q3 : (i : Int) > 0 := by omega
      have q4 : (joinT 45 ((l.take i).map txtL)).size + 1 ≤ 9223372036854775807 := by omega
      refine Ev.step (fun k => by simp only [spec_leText.l0, if_pos q1, if_pos q2, if_pos q3, if_pos q4, er, ei] <;> exact rfl) ?_
      refine Ev.bind e1 ?_
      have p0 : (numT (l.getD i z79).f0).size + 1 ≤ 9223372036854775807 := by rw [numT_size]; omega
      simp only [if_pos p0]
      refine Ev.bind e2 ?_
      have p1 : (numT (l.getD i z79).f0 ++ ⟨#[62]⟩).size + (numT (l.getD i z79).f1).size ≤ 9223372036854775807 := by rw [bsize_app, numT_size, numT_size, s1]; omega
      have p2 : (joinT 45 ((l.take i).map txtL) ++ ⟨#[45]⟩).size + ((numT (l.getD i z79).f0 ++ ⟨#[62]⟩) ++ numT (l.getD i z79).f1).size ≤ 9223372036854775807 := by rw [bsize_app, bsize_app, bsize_app, numT_size, numT_size, s1, s1]; omega
      simp only [if_pos p1, if_pos p2]
      rw [joinT_step 45 txtL l i z79 (by omega) hlt] at hn
      exact hn
theorem leText_ev (l : List S79) (hl : l.length ≤ 1048576) (hc : ∀ c ∈ l, isLetterB 10 c.f0 c.f1 = true) : Ev (fun k => spec_leText.f k l) (textL l) := by
  unfold spec_leText.f
  exact leText_l0 l hl hc l.length 0 (by omega)
theorem lettersText_l0 (l : List S79) (hl : l.length ≤ 1048576) (hc : ∀ c ∈ l, isLetterB 10 c.f0 c.f1 = true) : ∀ (d i : Nat), i + d = l.length →
    Ev (fun k => impl_lettersText.l0 k ((l.take i).map txtL) l (l.length : Int) (i : Int)) (textL l) := by
  intro d
  induction d with
  | zero =>
    intro i hi
    have hi' : ¬ (i : Int) < (l.length : Int) := by omega
    have hj := join_f 45 (l.map txtL) 3 (fun x hx => by obtain ⟨c, _, rfl⟩ := List.mem_map.1 hx; rw [txtL_size]; exact Nat.le_refl _) (by rw [List.length_map]; omega)
    rw [List.take_of_length_le (by omega)]
    refine Ev.step (fun k => by simp only [impl_lettersText.l0, if_neg hi', hj, Option.bind_some] <;> exact rfl) ?_
    exact ev_now _
  | succ d ih =>
    intro i hi
    have hlt : i < l.length := by omega
    have q1 : (i : Int) < (l.length : Int) := by omega
    have q2 : (0 : Int) ≤ (i : Int) := by omega
    have hm := hc (l.getD i z79) (by rw [getD_at _ _ _ hlt]; exact List.getElem_mem hlt)
    have hc1 := isLetterB_nums hm
    have ei := w64 (show -9223372036854775808 ≤ (i : Int) + 1 by omega) (by omega)
    have er : rd_T79 l (i : Int) = l.getD i z79 := rfl
    have q3 : ((l.take i).map txtL).length < 8796093022208 := by rw [List.length_map, List.length_take]; omega
    have et := txtL_of _ _ ⟨hc1.1, hc1.2.1⟩ ⟨hc1.2.2.1, hc1.2.2.2⟩
    refine Ev.step (fun k => by simp only [impl_lettersText.l0, if_pos q1, if_pos q2, if_pos q3, er, ei, et] <;> exact rfl) ?_
    have hn := ih (i + 1) (by omega)
    rw [take_at l i z79 hlt, List.map_append] at hn
    exact hn
theorem lettersText_ev (l : List S79) (hl : l.length ≤ 1048576) (hc : ∀ c ∈ l, isLetterB 10 c.f0 c.f1 = true) : Ev (fun k => impl_lettersText.f k l) (textL l) := by
  unfold impl_lettersText.f
  exact lettersText_l0 l hl hc l.length 0 (by omega)
def resP (l : List S79) : ByteArray × Bool := if areLettersB 10 l = true then (textL l, true) else (⟨#[]⟩, false)
theorem spec_ev (l : List S79) (h : l.length ≤ 1048576) : Ev (fun k => spec_LettersText.f k l) (resP l) := by
  unfold spec_LettersText.f resP
  refine Ev.bind (leGood_ev 10 l h) ?_
  cases hg : areLettersB 10 l with
  | false => simpa using ev_now _
  | true =>
    simp only [if_true]
    exact Ev.bind (leText_ev l h (areLettersB_true hg).2.2.2) (ev_now _)
theorem impl_ev (l : List S79) (h : l.length ≤ 1048576) : Ev (fun k => impl_LettersText.f k l) (resP l) := by
  unfold impl_LettersText.f resP
  simp only [impl_AreLetters.f, Option.bind_some]
  cases hg : areLettersB 10 l with
  | false => simpa using ev_now _
  | true =>
    simp only [if_true]
    exact Ev.bind (lettersText_ev l h (areLettersB_true hg).2.2.2) (ev_now _)
theorem FnExactLettersText : ∀ (l0 : (List S92)), l0.length ≤ 9223372036854775807 → ∃ k, laws_FnExactLettersText.f k l0 = some true := by
  intro l1 hl
  apply Ev.rounds
  unfold laws_FnExactLettersText.f
  by_cases h : l1.length ≤ 1048576
  · simp only [szLetterS_small l1 h, Option.bind_some]
    have h0 : ¬ (1048576 - (l1.length : Int)) < 0 := by omega
    simp only [if_neg h0]
    have hl' : (toLetters l1).length ≤ 1048576 := by rw [toLetters_length]; exact h
    refine Ev.bind (toLetterS_ev l1 h) ?_
    refine Ev.bind (spec_ev _ hl') ?_
    refine Ev.bind (toLetterS_ev l1 h) ?_
    refine Ev.bind (impl_ev _ hl') ?_
    simp only [if_true, bne_self_eq_false]
    refine Ev.step (fun k => by simp only [laws_FnExactLettersText.j0, Bool.false_eq_true, if_false] <;> exact rfl) ?_
    refine Ev.bind (toLetterS_ev l1 h) ?_
    refine Ev.bind (eqLetterS_ev _ hl') ?_
    simp only [if_true]
    exact ev_now _
  · simp only [szLetterS_great l1 h hl, Option.bind_some]
    exact ev_now _

end Go.Proofs.Ytnlmalicpckfbaa.Pure
