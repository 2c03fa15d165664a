/- The pure side of FnExactParseLetters: program and reference agree at every argument. No condition beside what an argument is. -/
import Derived.Test.YtnlmalicpckfbaaDoorPFnExactParseLettersx14
import Derived.Test.YtnlmalicpckfbaaDoorPBase
import Derived.Lib.Join
namespace Go.Proofs.YtnlmalicpckfbaaDoor.Pure
open Go.RowKit Go.Proofs.YtnlmalicpckfbaaDoor.PFnExactParseLetters Go.Proofs.YtnlmalicpckfbaaDoorW.PrintWords Go.Proofs.YtnlmalicpckfbaaDoorW.PrintLast Go.Proofs.YtnlmalicpckfbaaDoorW.PrintMore Go.Proofs.YtnlmalicpckfbaaDoor.PB
set_option linter.unusedSimpArgs false
set_option linter.unusedVariables false
/-! letters: read, compared, marked -/
theorem eqLetterS_l0 (a : List S47) (h : a.length ≤ 1048576) : ∀ (d : Nat) (i : Int), 0 ≤ i → i + d = a.length → Ev (fun k => laws_eqLetterS.l0 k a a i) true := by
  intro d
  induction d with
  | zero =>
    intro i h0 hi
    refine ev_step (f := fun _ => some true) (fun k => ?_) (ev_now _)
    simp only [laws_eqLetterS.l0]; rw [if_neg (by omega)]
  | succ d ih =>
    intro i h0 hi
    refine ev_step (f := fun k => laws_eqLetterS.l0 k a a (i + 1)) (fun k => ?_) (ih _ (by omega) (by omega))
    simp only [laws_eqLetterS.l0, laws_eqLetter.f, if_true, Option.bind_some]
    rw [if_pos (by omega), if_pos h0, if_pos (by omega), w64 (by omega) (by omega)]
theorem eqLetterS_ev (a : List S47) (h : a.length ≤ 1048576) : Ev (fun k => laws_eqLetterS.f k a a) true := by
  unfold laws_eqLetterS.f
  simp only [if_true]
  exact eqLetterS_l0 a h a.length 0 (by omega) (by omega)

/-! letters: marked -/
def markedL (n : Nat) (m : Int) : List S47 := (List.range n).map fun i : Nat => ⟨m + 2 * (i : Int), m + 2 * (i : Int) + 1⟩
theorem markLetterS_l0 (n : Nat) (m : Int) (hn : n ≤ 1048576) (hm : 0 ≤ m) (hm2 : m ≤ 1099511627776) : ∀ (d : Nat) (i : Int) (acc : List S47), 0 ≤ i → i + d = n → acc.length = n →
    (∀ j : Nat, (j : Int) < i → acc.getD j z47 = (markedL n m).getD j z47) → Ev (fun k => laws_markLetterS.l0 k acc (m + 2 * i) i) (m + 2 * n, markedL n m) := by
  intro d
  induction d with
  | zero =>
    intro i acc h0 hi hl hacc
    refine ev_step (f := fun _ => some (m + 2 * i, acc)) (fun k => ?_) ?_
    · simp only [laws_markLetterS.l0]; rw [if_neg (by omega)]
    · have e : acc = markedL n m := ext_getD z47 (by rw [hl]; simp [markedL]) (fun j hj => hacc j (by omega))
      rw [e, show m + 2 * i = m + 2 * n by omega]; exact ev_now _
  | succ d ih =>
    intro i acc h0 hi hl hacc
    refine ev_step (f := fun k => laws_markLetterS.l0 k (acc.set i.toNat ⟨m + 2 * i, m + 2 * i + 1⟩) (m + 2 * (i + 1)) (i + 1)) (fun k => ?_) ?_
    · have hi' : i.toNat < acc.length := by omega
      simp only [laws_markLetterS.l0, Option.bind_some, rd_T47]
      rw [if_pos (by omega), if_pos h0, w64 (by omega) (by omega), w64 (by omega) (by omega), w64 (by omega) (by omega), show m + 2 * i + 1 + 1 = m + 2 * (i + 1) by omega, List.set_set, getD_set _ _ _ _ _ hi']
      simp
    · refine ih (i + 1) _ (by omega) (by omega) (by simpa using hl) (fun j hj => ?_)
      rw [getD_set _ _ _ _ _ (by omega)]
      split
      · rename_i e
        subst e
        rw [markedL, getD_range_map _ _ _ _ (by omega), show ((i.toNat : Nat) : Int) = i by omega]
      · exact hacc j (by omega)
theorem markLetterS_ev (l : List S47) (m : Int) (hn : l.length ≤ 1048576) (hm : 0 ≤ m) (hm2 : m ≤ 1099511627776) : Ev (fun k => laws_markLetterS.f k l m) (m + 2 * (l.length : Int), markedL l.length m) := by
  unfold laws_markLetterS.f
  have := markLetterS_l0 l.length m hn hm hm2 l.length 0 l (by omega) (by omega) rfl (fun j hj => by omega)
  simpa using this

/-! letters: held -/
theorem heldLetterS_l0 (n : Nat) (m : Int) (hn : n ≤ 1048576) (hm : 0 ≤ m) (hm2 : m ≤ 1099511627776) : ∀ (d : Nat) (i : Int), 0 ≤ i → i + d = n → Ev (fun k => laws_heldLetterS.l0 k (markedL n m) (m + 2 * i) i) (m + 2 * n) := by
  intro d
  have hl : (markedL n m).length = n := by simp [markedL]
  induction d with
  | zero =>
    intro i h0 hi
    refine ev_step (f := fun _ => some (m + 2 * i)) (fun k => ?_) ?_
    · simp only [laws_heldLetterS.l0]; rw [if_neg (by omega)]
    · rw [show m + 2 * i = m + 2 * n by omega]; exact ev_now _
  | succ d ih =>
    intro i h0 hi
    refine ev_step (f := fun k => laws_heldLetterS.l0 k (markedL n m) (m + 2 * (i + 1)) (i + 1)) (fun k => ?_) (ih _ (by omega) (by omega))
    have e : rd_T47 (markedL n m) i = ⟨m + 2 * i, m + 2 * i + 1⟩ := by
      show (markedL n m).getD i.toNat z47 = _
      rw [markedL, getD_range_map _ _ _ _ (by omega), show ((i.toNat : Nat) : Int) = i by omega]
    simp only [laws_heldLetterS.l0, e, if_true]
    rw [if_pos (by omega), if_pos h0, w64 (by omega) (by omega), w64 (by omega) (by omega), w64 (by omega) (by omega), if_pos rfl, show m + 2 * i + 1 + 1 = m + 2 * (i + 1) by omega]
theorem heldLetterS_ev (n : Nat) (m : Int) (hn : n ≤ 1048576) (hm : 0 ≤ m) (hm2 : m ≤ 1099511627776) : Ev (fun k => laws_heldLetterS.f k (markedL n m) m) (m + 2 * (n : Int)) := by
  unfold laws_heldLetterS.f
  have := heldLetterS_l0 n m hn hm hm2 n 0 (by omega) (by omega)
  simpa using this

/-! spec.leGood -/
theorem caFriends_f (n : Int) : spec_caFriends.f n = some (decide (1 ≤ n) && decide (n ≤ 10)) := by
  unfold spec_caFriends.f spec_l1In.f
  by_cases h1 : 1 ≤ n <;> by_cases h2 : n ≤ 10 <;> simp [h1, h2]
theorem leLetter_f (n a b : Int) (h1 : 1 ≤ n) (h2 : n ≤ 10) : spec_leLetter.f n a b = some (isLetterB n a b) := by
  unfold spec_leLetter.f spec_l1In.f isLetterB
  rw [w64 (by omega) (by omega)]
  have e : ∀ x : Int, decide (x ≤ n - 1) = decide (x < n) := fun x => by rw [decide_eq_decide]; omega
  by_cases g1 : 0 ≤ a
  · by_cases g2 : a < n
    · have g2' : a ≤ n - 1 := by omega
      by_cases g3 : 0 ≤ b
      · by_cases g4 : b < n
        · have g4' : b ≤ n - 1 := by omega
          simp [g1, g2, g2', g3, g4, g4', bne]
        · have g4' : ¬ b ≤ n - 1 := by omega
          simp [g1, g2, g2', g3, g4, g4']
      · simp [g1, g2, g2', g3]
    · have g2' : ¬ a ≤ n - 1 := by omega
      simp [g1, g2, g2']
  · simp [g1]
theorem leGood_l0 (n : Int) (l : List S47) (h : l.length ≤ 1048576) (h1 : 1 ≤ n) (h2 : n ≤ 10) : ∀ (d : Nat) (i : Int), 0 ≤ i → i + d = l.length →
    Ev (fun k => spec_leGood.l0 k n l (l.length : Int) i) ((l.drop i.toNat).all fun c => isLetterB n c.f0 c.f1) := by
  intro d
  induction d with
  | zero =>
    intro i h0 hi
    refine ev_step (f := fun _ => some true) (fun k => ?_) ?_
    · simp only [spec_leGood.l0]; rw [if_neg (by omega)]
    · rw [List.drop_eq_nil_of_le (by omega)]; exact ev_now _
  | succ d ih =>
    intro i h0 hi
    have hd := drop_at l i.toNat z47 (by omega)
    cases hq : isLetterB n (l.getD i.toNat z47).f0 (l.getD i.toNat z47).f1 with
    | true =>
      refine ev_step (f := fun k => spec_leGood.l0 k n l (l.length : Int) (i + 1)) (fun k => ?_) ?_
      · simp only [spec_leGood.l0, rd_T47, leLetter_f n _ _ h1 h2, Option.bind_some, hq, if_true]
        rw [if_pos (by omega), if_pos h0, if_pos (by omega), w64 (by omega) (by omega)]
      · have := ih (i + 1) (by omega) (by omega)
        rw [hd, List.all_cons, hq, Bool.true_and]
        rwa [show (i + 1).toNat = i.toNat + 1 by omega] at this
    | false =>
      refine ev_step (f := fun _ => some false) (fun k => ?_) ?_
      · simp only [spec_leGood.l0, rd_T47, leLetter_f n _ _ h1 h2, Option.bind_some, hq]
        rw [if_pos (by omega), if_pos h0, if_pos (by omega), if_neg (by simp)]
      · rw [hd, List.all_cons, hq, Bool.false_and]; exact ev_now _
theorem leGood_ev (n : Int) (l : List S47) (h : l.length ≤ 1048576) : Ev (fun k => spec_leGood.f k n l) (areLettersB n l) := by
  unfold spec_leGood.f
  simp only [caFriends_f, Option.bind_some]
  by_cases h1 : 1 ≤ n ∧ n ≤ 10
  · obtain ⟨h1, h2⟩ := h1
    by_cases h3 : l.length ≤ 60
    · have e : areLettersB n l = l.all fun c => isLetterB n c.f0 c.f1 := by simp [areLettersB, h1, h2, h3]
      rw [e]
      have e2 : decide ((l.length : Int) > 60) = false := by rw [decide_eq_false_iff_not]; omega
      simp only [h1, h2, decide_true, Bool.and_self, if_true, e2]
      refine ev_step (f := fun k => spec_leGood.l0 k n l (l.length : Int) 0) (fun k => by simp [spec_leGood.j0]) ?_
      simpa using leGood_l0 n l h h1 h2 l.length 0 (by omega) (by omega)
    · have e : areLettersB n l = false := by simp [areLettersB, h3]
      rw [e]
      have e2 : decide ((l.length : Int) > 60) = true := by rw [decide_eq_true_eq]; omega
      simp only [h1, h2, decide_true, Bool.and_self, if_true, e2]
      exact ev_step (f := fun _ => some false) (fun k => by simp [spec_leGood.j0]) (ev_now _)
  · have e : areLettersB n l = false := by rw [Bool.eq_false_iff]; intro hh; simp [areLettersB] at hh; exact h1 ⟨hh.1, hh.2.1⟩
    have e1 : (decide (1 ≤ n) && decide (n ≤ 10)) = false := by rw [Bool.eq_false_iff]; simpa using h1
    rw [e]
    simp only [e1]
    exact ev_step (f := fun _ => some false) (fun k => by simp [spec_leGood.j0]) (ev_now _)
theorem areLettersB_true {n : Int} {cs : List S47} (h : areLettersB n cs = true) : 1 ≤ n ∧ n ≤ 10 ∧ cs.length ≤ 60 ∧ ∀ c ∈ cs, isLetterB n c.f0 c.f1 = true := by
  simp [areLettersB] at h
  exact h

/-! strings as lists of bytes -/
theorem bext {a b : ByteArray} (h : a.data.toList = b.data.toList) : a = b := by
  cases a with | mk a => cases b with | mk b => exact congrArg ByteArray.mk (Array.ext' h)
theorem bapp (a b : ByteArray) : (a ++ b).data.toList = a.data.toList ++ b.data.toList := by rw [ByteArray.data_append, Array.toList_append]
theorem bsize (a : ByteArray) : a.size = a.data.toList.length := (Array.length_toList).symm
theorem bsize_app (a b : ByteArray) : (a ++ b).size = a.size + b.size := by rw [bsize, bsize, bsize, bapp, List.length_append]

/-! a text cut at a byte -/
def sp (c : UInt8) : List UInt8 → List (List UInt8)
  | [] => [[]]
  | x :: l => if x = c then [] :: sp c l else match sp c l with
    | [] => [[x]]
    | y :: r => (x :: y) :: r
def spW (c : UInt8) (pre : List UInt8) (l : List UInt8) : List (List UInt8) := match sp c l with
  | [] => [pre]
  | y :: r => (pre ++ y) :: r
theorem sp_some (c : UInt8) : ∀ l, ∃ y r, sp c l = y :: r
  | [] => ⟨[], [], rfl⟩
  | x :: l => by
    obtain ⟨y, r, h⟩ := sp_some c l
    unfold sp
    rw [h]
    split
    · exact ⟨_, _, rfl⟩
    · exact ⟨_, _, rfl⟩
theorem spW_nil (c : UInt8) (pre : List UInt8) : spW c pre [] = [pre] := by simp [spW, sp]
theorem spW_hit (c : UInt8) (pre l : List UInt8) : spW c pre (c :: l) = pre :: sp c l := by simp [spW, sp]
theorem spW_miss (c x : UInt8) (pre l : List UInt8) (h : x ≠ c) : spW c pre (x :: l) = spW c (pre ++ [x]) l := by
  obtain ⟨y, r, e⟩ := sp_some c l
  simp [spW, sp, h, e]
theorem spW_start (c : UInt8) (l : List UInt8) : spW c [] l = sp c l := by
  obtain ⟨y, r, e⟩ := sp_some c l
  simp [spW, e]
theorem sp_len (c : UInt8) : ∀ l, ((sp c l).map List.length).sum + (sp c l).length = l.length + 1
  | [] => rfl
  | x :: l => by
    have ih := sp_len c l
    obtain ⟨y, r, e⟩ := sp_some c l
    unfold sp
    split
    · simp only [List.map_cons, List.sum_cons, List.length_cons, List.length_nil]; omega
    · rw [e] at ih ⊢
      simp only [List.map_cons, List.sum_cons, List.length_cons] at ih ⊢
      omega
theorem count_none (c : UInt8) : ∀ l : List UInt8, Lib.indexByte l c = -1 → l.count c = 0
  | [], _ => rfl
  | x :: l, h => by
    unfold Lib.indexByte at h
    by_cases hx : (x == c) = true
    · rw [if_pos hx] at h; cases h
    · rw [if_neg hx] at h
      have hx' : x ≠ c := fun e => hx (by simp [e])
      by_cases hi : (Lib.indexByte l c == -1) = true
      · rw [List.count_cons_of_ne (by simpa using hx')]; exact count_none c l (by simpa using hi)
      · rw [if_neg hi] at h
        have := Lib.indexByte_ge l c
        omega
theorem splitK_sp (c : UInt8) : ∀ l : List UInt8, Lib.splitK [c] 0 (l.count c) l = sp c l
  | [] => rfl
  | x :: l => by
    have ih := splitK_sp c l
    by_cases h : x = c
    · subst h
      rw [List.count_cons_self, Lib.splitK, Lib.index_one, Lib.indexByte, if_pos (beq_self_eq_true x)]
      rw [if_neg (by decide)]
      simp only [List.length_cons, List.length_nil]
      show [] :: Lib.splitK [x] 0 (l.count x) l = _
      rw [ih, sp, if_pos rfl]
    · rw [List.count_cons_of_ne (by simpa using h), sp, if_neg h]
      cases hk : l.count c with
      | zero => rw [hk, Lib.splitK] at ih; rw [← ih, Lib.splitK]
      | succ k =>
        have hi : Lib.indexByte l c ≠ -1 := fun e => by rw [count_none c l e] at hk; cases hk
        have hge := Lib.indexByte_ge l c
        obtain ⟨i, ei⟩ : ∃ i : Nat, Lib.indexByte l c = (i : Int) := ⟨(Lib.indexByte l c).toNat, by omega⟩
        have hb : ¬ ((Lib.indexByte l c == -1) = true) := by simpa using hi
        rw [hk, Lib.splitK, Lib.index_one, if_neg hb, ei] at ih
        have hx : ¬ ((x == c) = true) := by simpa using h
        rw [← ih, Lib.splitK, Lib.index_one, Lib.indexByte, if_neg hx, if_neg hb, ei]
        rw [if_neg (by simp; omega)]
        rw [show ((i : Int) + 1).toNat = i + 1 by omega, show ((i : Int)).toNat = i by omega]
        rfl
def mkB (l : List UInt8) : ByteArray := ⟨l.toArray⟩
theorem mkB_data (b : ByteArray) : mkB b.data.toList = b := bext (by simp [mkB])
def pieces (c : UInt8) (s : ByteArray) : List ByteArray := (sp c s.data.toList).map mkB
theorem splitB_pieces (c : UInt8) (s : ByteArray) : Lib.splitB ⟨#[c]⟩ 0 (Lib.countB s ⟨#[c]⟩) s = pieces c s := by
  have h := Lib.splitB_data ⟨#[c]⟩ 0 (Lib.countB s ⟨#[c]⟩) s
  have e : Lib.countB s ⟨#[c]⟩ = s.data.toList.count c := Lib.count_one c _
  rw [e] at h ⊢
  rw [show (⟨#[c]⟩ : ByteArray).data.toList = [c] from rfl, splitK_sp] at h
  rw [pieces, ← h, List.map_map]
  have : ∀ xs : List ByteArray, xs = xs.map (mkB ∘ fun b => b.data.toList) := by
    intro xs
    induction xs with
    | nil => rfl
    | cons x xs ih => rw [List.map_cons, ← ih]; simp [mkB_data]
  exact this _
theorem pieces_len (c : UInt8) (s : ByteArray) : ((pieces c s).map ByteArray.size).sum + (pieces c s).length = s.size + 1 := by
  have h := sp_len c s.data.toList
  have e : (pieces c s).map ByteArray.size = (sp c s.data.toList).map List.length := by
    rw [pieces, List.map_map]
    congr 1
  rw [e, pieces, List.length_map, h, bsize]
theorem split_f (c : UInt8) (s : ByteArray) (h : s.size ≤ 1048576) : strings_Split.f s ⟨#[c]⟩ = some (pieces c s) := by
  unfold strings_Split.f
  rw [if_pos ⟨h, rfl⟩, splitB_pieces]
theorem data_at (s : ByteArray) (i : Nat) (h : i < s.size) : s.data.toList.drop i = s[i] :: s.data.toList.drop (i + 1) := by
  have h' : i < s.data.toList.length := by rw [Array.length_toList]; exact h
  rw [List.drop_eq_getElem_cons h']
  congr 1
theorem l1Split_l0 (s : ByteArray) (c : UInt8) (ci : Int) (hc : ((c.toNat : Nat) : Int) = ci) (hs : s.size ≤ 1048576) : ∀ (d i a : Nat) (out : List ByteArray), a ≤ i → i + d = s.size → out.length ≤ i →
    Ev (fun k => spec_l1Split.l0 k s ci out (a : Int) (i : Int)) (out ++ (spW c ((s.data.toList.drop a).take (i - a)) (s.data.toList.drop i)).map mkB) := by
  intro d
  induction d with
  | zero =>
    intro i a out ha hi ho
    have q0 : ¬ (i : Int) < (s.size : Int) := by omega
    have q1 : (0 : Int) ≤ (a : Int) := by omega
    have q2 : (a : Int) ≤ (s.size : Int) := by omega
    have q3 : out.length < 8796093022208 := by omega
    refine Ev.step (fun k => by simp only [spec_l1Split.l0, if_neg q0, if_pos q1, if_pos q2, if_pos q3] <;> exact rfl) ?_
    have e : (spW c ((s.data.toList.drop a).take (i - a)) (s.data.toList.drop i)).map mkB = [s.extract (a : Int).toNat s.size] := by
      have hd : s.data.toList.drop i = [] := List.drop_eq_nil_of_le (by rw [Array.length_toList]; show s.size ≤ i; omega)
      rw [hd, spW_nil, List.map_cons, List.map_nil]
      congr 1
      apply bext
      rw [Lib.extract_data]
      simp [mkB, show s.size = i by omega]
    rw [e]
    exact ev_now _
  | succ d ih =>
    intro i a out ha hi ho
    have hlt : i < s.size := by omega
    have q0 : (i : Int) < (s.size : Int) := by omega
    have q1 : (0 : Int) ≤ (i : Int) := by omega
    have ei := w64 (show -9223372036854775808 ≤ (i : Int) + 1 by omega) (by omega)
    have eb : bt s (i : Int) = ((s[i].toNat : Nat) : Int) := by simp [bt, hlt]
    rw [data_at s i hlt]
    by_cases h : s[i] = c
    · have p1 : bt s (i : Int) = ci := by rw [eb, h, hc]
      have p2 : (0 : Int) ≤ (a : Int) := by omega
      have p3 : (a : Int) ≤ (i : Int) := by omega
      have p4 : (i : Int) ≤ (s.size : Int) := by omega
      have p5 : out.length < 8796093022208 := by omega
      refine Ev.step (fun k => by simp only [spec_l1Split.l0, if_pos q0, if_pos q1, if_pos p1, if_pos p2, if_pos p3, if_pos p4, if_pos p5, ei] <;> exact rfl) ?_
      have hn := ih (i + 1) (i + 1) (out ++ [s.extract a i]) (Nat.le_refl _) (by omega) (by rw [List.length_append]; simp; omega)
      rw [Nat.sub_self, List.take_zero, spW_start] at hn
      rw [h, spW_hit, List.map_cons]
      have e : mkB ((s.data.toList.drop a).take (i - a)) = s.extract a i := by apply bext; rw [Lib.extract_data]; simp [mkB]
      rw [e]
      rw [List.append_assoc] at hn
      exact hn
    · have p1 : ¬ bt s (i : Int) = ci := by
        rw [eb, ← hc]
        intro e
        exact h (UInt8.toNat_inj.1 (by omega))
      refine Ev.step (fun k => by simp only [spec_l1Split.l0, if_pos q0, if_pos q1, if_neg p1, ei] <;> exact rfl) ?_
      rw [spW_miss c _ _ _ h]
      have hn := ih (i + 1) a out (by omega) (by omega) (by omega)
      have e : (s.data.toList.drop a).take (i - a) ++ [s[i]] = (s.data.toList.drop a).take (i + 1 - a) := by
        rw [show i + 1 - a = (i - a) + 1 by omega, List.take_succ_eq_append_getElem (by rw [List.length_drop, Array.length_toList]; show i - a < s.size - a; omega)]
        congr 1
        simp [show a + (i - a) = i by omega]
        rfl
      rw [e]
      exact hn
theorem l1Split_ev (s : ByteArray) (c : UInt8) (ci : Int) (hc : ((c.toNat : Nat) : Int) = ci) (hs : s.size ≤ 1048576) : Ev (fun k => spec_l1Split.f k s ci) (pieces c s) := by
  unfold spec_l1Split.f
  have := l1Split_l0 s c ci hc hs s.size 0 0 [] (Nat.le_refl _) (by omega) (Nat.le_refl _)
  simpa [spW_start, pieces] using this

theorem empty_iff (s : ByteArray) : s.toList = [] ↔ s.size = 0 := by rw [Lib.toList_data, bsize]; exact List.length_eq_zero_iff.symm
theorem isLetterB_nums {a b : Int} (h : isLetterB 10 a b = true) : 0 ≤ a ∧ a < 10 ∧ 0 ≤ b ∧ b < 10 := by
  simp [isLetterB] at h
  omega
def joinT (s : UInt8) (xs : List ByteArray) : ByteArray := ⟨(Lib.join (xs.map (·.data.toList)) [s]).toArray⟩
theorem joinT_nil (s : UInt8) : joinT s [] = ⟨#[]⟩ := rfl
theorem joinT_one (s : UInt8) (x : ByteArray) : joinT s [x] = x := bext (by simp [joinT, Lib.join_one])
theorem joinT_snoc (s : UInt8) (xs : List ByteArray) (y : ByteArray) (h : xs ≠ []) : joinT s (xs ++ [y]) = (joinT s xs ++ ⟨#[s]⟩) ++ y := by
  cases xs with
  | nil => exact absurd rfl h
  | cons x r =>
    apply bext
    rw [bapp, bapp]
    simp only [joinT, List.cons_append, List.map_cons, List.map_append, List.map_nil, Lib.join_cons, Lib.joinTail]
    simp
theorem joinT_size (s : UInt8) (m : Nat) : ∀ (xs : List ByteArray), (∀ x ∈ xs, x.size ≤ m) → (joinT s xs).size ≤ xs.length * (m + 1) := by
  intro xs h
  cases xs with
  | nil => rw [joinT_nil]; exact Nat.zero_le _
  | cons x r =>
    have hl : ∀ (l : List ByteArray), (∀ x ∈ l, x.size ≤ m) → Lib.lens (l.map (·.data.toList)) ≤ l.length * m := by
      intro l
      induction l with
      | nil => intro _; simp [Lib.lens]
      | cons y l ih =>
        intro h
        have h1 := ih (fun x hx => h x (List.mem_cons_of_mem _ hx))
        have h2 := h y List.mem_cons_self
        rw [bsize] at h2
        simp only [Lib.lens, List.map_cons, List.sum_cons, List.length_cons, Nat.add_mul, Nat.one_mul] at h1 ⊢
        omega
    have h1 := hl (x :: r) h
    rw [bsize]
    simp only [joinT, List.map_cons] at h1 ⊢
    rw [Lib.join_length]
    simp only [List.length_map, List.length_cons, List.length_nil] at h1 ⊢
    have e1 : (r.length + 1) * (m + 1) = (r.length + 1) * m + (r.length + 1) := by rw [Nat.mul_add, Nat.mul_one]
    omega
theorem joinT_step (s : UInt8) {α : Type} (f : α → ByteArray) (l : List α) (i : Nat) (d : α) (h0 : 0 < i) (hi : i < l.length) : joinT s ((l.take (i + 1)).map f) = (joinT s ((l.take i).map f) ++ ⟨#[s]⟩) ++ f (l.getD i d) := by
  rw [take_at l i d hi, List.map_append, List.map_cons, List.map_nil, joinT_snoc]
  intro he
  have h1 : ((l.take i).map f).length = 0 := by rw [he]; rfl
  rw [List.length_map, List.length_take] at h1
  omega
theorem joinT_step0 (s : UInt8) {α : Type} (f : α → ByteArray) (l : List α) (d : α) (hi : 0 < l.length) : joinT s ((l.take (0 + 1)).map f) = f (l.getD 0 d) := by
  rw [take_at l 0 d hi]
  simp [joinT_one]
def numT (a : Int) : ByteArray := strOfNums [48 + a]
theorem numT_size (a : Int) : (numT a).size = 1 := strOfNums_size _
theorem l1Num_ev (a : Int) (h0 : 0 ≤ a) (h1 : a < 10) : Ev (fun k => spec_l1Num.f k a) (numT a) := by
  refine ev_step (f := fun _ => some (numT a)) (fun k => ?_) (ev_now _)
  simp only [spec_l1Num.f]
  rw [if_pos h1, w64 (by omega) (by omega), show (48 + a) % 256 = 48 + a by omega]
  rfl
def txtL (c : S47) : ByteArray := (numT c.f0 ++ ⟨#[62]⟩) ++ numT c.f1
theorem txtL_size (c : S47) : (txtL c).size = 3 := by rw [txtL, bsize_app, bsize_app, numT_size, numT_size]; rfl
theorem txtL_of (a b : Int) (h : 0 ≤ a ∧ a < 10) (g : 0 ≤ b ∧ b < 10) : strOfNums [(wrap64 (48 + a)) % 256, 62, (wrap64 (48 + b)) % 256] = (numT a ++ ⟨#[62]⟩) ++ numT b := by
  rw [w64 (by omega) (by omega), w64 (by omega) (by omega), show (48 + a) % 256 = 48 + a by omega, show (48 + b) % 256 = 48 + b by omega]
  apply bext
  rw [bapp, bapp]
  rfl
def textL (l : List S47) : ByteArray := joinT 45 (l.map txtL)
theorem textL_size (l : List S47) : (textL l).size ≤ l.length * 4 := by
  have := joinT_size 45 3 (l.map txtL) (fun x hx => by obtain ⟨c, _, rfl⟩ := List.mem_map.1 hx; rw [txtL_size]; exact Nat.le_refl _)
  rwa [List.length_map] at this
theorem leText_l0 (l : List S47) (hl : l.length ≤ 1048576) (hc : ∀ c ∈ l, isLetterB 10 c.f0 c.f1 = true) : ∀ (d i : Nat), i + d = l.length →
    Ev (fun k => spec_leText.l0 k (joinT 45 ((l.take i).map txtL)) l (l.length : Int) (i : Int)) (textL l) := by
  intro d
  induction d with
  | zero =>
    intro i hi
    have hi' : ¬ (i : Int) < (l.length : Int) := by omega
    refine Ev.step (fun k => by simp only [spec_leText.l0, if_neg hi'] <;> exact rfl) ?_
    rw [List.take_of_length_le (by omega)]
    exact ev_now _
  | succ d ih =>
    intro i hi
    have hlt : i < l.length := by omega
    have q1 : (i : Int) < (l.length : Int) := by omega
    have q2 : (0 : Int) ≤ (i : Int) := by omega
    have hm := hc (l.getD i z47) (by rw [getD_at _ _ _ hlt]; exact List.getElem_mem hlt)
    have hsz : (joinT 45 ((l.take i).map txtL)).size ≤ 4 * 1048576 := by
      have := textL_size (l.take i)
      rw [List.length_take] at this
      show (textL (l.take i)).size ≤ _
      omega
    have hn := ih (i + 1) (by omega)
    have hc1 := isLetterB_nums hm
    have ei := w64 (show -9223372036854775808 ≤ (i : Int) + 1 by omega) (by omega)
    have er : rd_T47 l (i : Int) = l.getD i z47 := rfl
    have e1 := l1Num_ev _ hc1.1 hc1.2.1
    have e2 := l1Num_ev _ hc1.2.2.1 hc1.2.2.2
    have s1 : ∀ x : UInt8, ByteArray.size ⟨#[x]⟩ = 1 := fun _ => rfl
    by_cases h0 : i = 0
    · subst h0
      have q3 : ¬ ((0 : Nat) : Int) > 0 := by omega
      refine Ev.step (fun k => by simp only [spec_leText.l0, if_pos q1, if_pos q2, if_neg q3, er, ei] <;> exact rfl) ?_
      refine Ev.bind e1 ?_
      have p0 : (numT (l.getD 0 z47).f0).size + 1 ≤ 9223372036854775807 := by rw [numT_size]; omega
      simp only [if_pos p0]
      refine Ev.bind e2 ?_
      have p1 : (numT (l.getD 0 z47).f0 ++ ⟨#[62]⟩).size + (numT (l.getD 0 z47).f1).size ≤ 9223372036854775807 := by rw [bsize_app, numT_size, numT_size, s1]; omega
      have p2 : (joinT 45 ((l.take 0).map txtL)).size + ((numT (l.getD 0 z47).f0 ++ ⟨#[62]⟩) ++ numT (l.getD 0 z47).f1).size ≤ 9223372036854775807 := by rw [bsize_app, bsize_app, numT_size, numT_size, s1]; omega
      simp only [if_pos p1, if_pos p2]
      rw [joinT_step0 45 txtL l z47 hlt] at hn
      have e3 : joinT 45 ((l.take 0).map txtL) ++ ((numT (l.getD 0 z47).f0 ++ ⟨#[62]⟩) ++ numT (l.getD 0 z47).f1) = txtL (l.getD 0 z47) := by
        apply bext; rw [bapp]; rfl
      rw [e3]
      exact hn
    · have q3 : (i : Int) > 0 := by omega
      have q4 : (joinT 45 ((l.take i).map txtL)).size + 1 ≤ 9223372036854775807 := by omega
      refine Ev.step (fun k => by simp only [spec_leText.l0, if_pos q1, if_pos q2, if_pos q3, if_pos q4, er, ei] <;> exact rfl) ?_
      refine Ev.bind e1 ?_
      have p0 : (numT (l.getD i z47).f0).size + 1 ≤ 9223372036854775807 := by rw [numT_size]; omega
      simp only [if_pos p0]
      refine Ev.bind e2 ?_
      have p1 : (numT (l.getD i z47).f0 ++ ⟨#[62]⟩).size + (numT (l.getD i z47).f1).size ≤ 9223372036854775807 := by rw [bsize_app, numT_size, numT_size, s1]; omega
      have p2 : (joinT 45 ((l.take i).map txtL) ++ ⟨#[45]⟩).size + ((numT (l.getD i z47).f0 ++ ⟨#[62]⟩) ++ numT (l.getD i z47).f1).size ≤ 9223372036854775807 := by rw [bsize_app, bsize_app, bsize_app, numT_size, numT_size, s1, s1]; omega
      simp only [if_pos p1, if_pos p2]
      rw [joinT_step 45 txtL l i z47 (by omega) hlt] at hn
      exact hn
theorem leText_ev (l : List S47) (hl : l.length ≤ 1048576) (hc : ∀ c ∈ l, isLetterB 10 c.f0 c.f1 = true) : Ev (fun k => spec_leText.f k l) (textL l) := by
  unfold spec_leText.f
  exact leText_l0 l hl hc l.length 0 (by omega)
/-! parts -/
theorem join_sp (c : UInt8) : ∀ l : List UInt8, Lib.join (sp c l) [c] = l := by
  intro l
  have h : ∀ l : List UInt8, ∃ y r, sp c l = y :: r ∧ y ++ Lib.joinTail [c] r = l := by
    intro l
    induction l with
    | nil => exact ⟨[], [], rfl, rfl⟩
    | cons x l ih =>
      obtain ⟨y, r, h1, h2⟩ := ih
      by_cases hx : x = c
      · subst hx
        refine ⟨[], y :: r, by rw [sp, if_pos rfl, h1], ?_⟩
        rw [← h2]
        simp [Lib.joinTail]
      · refine ⟨x :: y, r, by rw [sp, if_neg hx, h1], ?_⟩
        rw [List.cons_append, h2]
  obtain ⟨y, r, h1, h2⟩ := h l
  rw [h1, Lib.join_cons, h2]
theorem sp_pre (c : UInt8) (l : List UInt8) : ∀ x : List UInt8, c ∉ x → sp c (x ++ l) = spW c x l
  | [], _ => (spW_start c l).symm
  | a :: x, h => by
    have ha : a ≠ c := fun e => h (by rw [e]; exact List.mem_cons_self)
    have ih := sp_pre c l x (fun hx => h (List.mem_cons_of_mem _ hx))
    obtain ⟨y, r, e⟩ := sp_some c l
    rw [List.cons_append, sp, if_neg ha, ih]
    simp [spW, e]
theorem sp_join (c : UInt8) : ∀ (r : List (List UInt8)) (x : List UInt8), c ∉ x → (∀ y ∈ r, c ∉ y) → sp c (x ++ Lib.joinTail [c] r) = x :: r
  | [], x, hx, _ => by
    have : Lib.joinTail [c] [] = [] := rfl
    rw [this, sp_pre c [] x hx, spW_nil]
  | z :: r, x, hx, hr => by
    have e : Lib.joinTail [c] (z :: r) = c :: (z ++ Lib.joinTail [c] r) := by simp [Lib.joinTail]
    rw [e, sp_pre c _ x hx, spW_hit, sp_join c r z (hr z List.mem_cons_self) (fun y hy => hr y (List.mem_cons_of_mem _ hy))]
theorem joinT_pieces (c : UInt8) (s : ByteArray) : joinT c (pieces c s) = s := by
  apply bext
  have e : (pieces c s).map (·.data.toList) = sp c s.data.toList := by
    rw [pieces, List.map_map]
    have : ((fun b : ByteArray => b.data.toList) ∘ mkB) = id := by funext l; simp [mkB]
    rw [this, List.map_id]
  simp only [joinT, e]
  simp [join_sp]
theorem pieces_join (c : UInt8) (xs : List ByteArray) (hne : xs ≠ []) (h : ∀ x ∈ xs, c ∉ x.data.toList) : pieces c (joinT c xs) = xs := by
  cases xs with
  | nil => exact absurd rfl hne
  | cons x r =>
    have e : (joinT c (x :: r)).data.toList = x.data.toList ++ Lib.joinTail [c] (r.map (·.data.toList)) := by
      simp only [joinT, List.map_cons, Lib.join_cons]
    have h2 := sp_join c (r.map (·.data.toList)) x.data.toList (h x List.mem_cons_self) (fun y hy => by obtain ⟨z, hz, rfl⟩ := List.mem_map.1 hy; exact h z (List.mem_cons_of_mem _ hz))
    rw [pieces, e, h2, List.map_cons, mkB_data, List.map_map]
    congr 1
    have : ∀ l : List ByteArray, l.map (mkB ∘ fun b => b.data.toList) = l := by
      intro l
      induction l with
      | nil => rfl
      | cons y l ih => rw [List.map_cons, ih]; simp [mkB_data]
    exact this r
/-! one letter -/
def pcL (p : ByteArray) : S47 := ⟨wrap64 ((wrap64 (bt p 0)) - 48), wrap64 ((wrap64 (bt p 2)) - 48)⟩
def okL (p : ByteArray) : Bool := p.size == 3 && (bt p 1 == 62 && isLetterB 10 (pcL p).f0 (pcL p).f1)
def parseL (s : ByteArray) : List S47 × Bool := if s.size = 0 then ([], true) else if (pieces 45 s).all okL = true ∧ (pieces 45 s).length ≤ 60 then ((pieces 45 s).map pcL, true) else ([], false)
def readG (s : ByteArray) : Nat → Nat → Int → Int
  | 0, _, n => n
  | d + 1, i, n => if bt s (i : Int) < 48 then -1 else if bt s (i : Int) > 57 then -1 else readG s d (i + 1) (wrap64 ((wrap64 (10 * n)) + ((bt s (i : Int) - 48) % 256)))
def readP (s : ByteArray) : Int := if s.size ≥ 1 ∧ s.size ≤ 6 ∧ ¬ (bt s 0 = 48 ∧ s.size > 1) then readG s s.size 0 0 else -1
theorem read_l0 (s : ByteArray) (hs : s.size ≤ 1048576) : ∀ (d i : Nat) (n : Int), i + d = s.size → Ev (fun k => spec_l1Read.l0 k s n (i : Int)) (readG s d i n) := by
  intro d
  induction d with
  | zero =>
    intro i n hi
    have hi' : ¬ (i : Int) < (s.size : Int) := by omega
    exact Ev.step (fun k => by simp only [spec_l1Read.l0, if_neg hi'] <;> exact rfl) (ev_now _)
  | succ d ih =>
    intro i n hi
    have q1 : (i : Int) < (s.size : Int) := by omega
    have q2 : (0 : Int) ≤ (i : Int) := by omega
    have ei := w64 (show -9223372036854775808 ≤ (i : Int) + 1 by omega) (by omega)
    rw [readG]
    by_cases h1 : bt s (i : Int) < 48
    · rw [if_pos h1]
      exact Ev.step (fun k => by simp only [spec_l1Read.l0, if_pos q1, if_pos q2, if_pos h1] <;> exact rfl) (ev_now _)
    · rw [if_neg h1]
      by_cases h2 : bt s (i : Int) > 57
      · rw [if_pos h2]
        exact Ev.step (fun k => by simp only [spec_l1Read.l0, if_pos q1, if_pos q2, if_neg h1, if_pos h2] <;> exact rfl) (ev_now _)
      · rw [if_neg h2]
        refine Ev.step (fun k => by simp only [spec_l1Read.l0, if_pos q1, if_pos q2, if_neg h1, if_neg h2, ei] <;> exact rfl) ?_
        exact ih (i + 1) _ (by omega)
theorem read_ev (s : ByteArray) (hs : s.size ≤ 1048576) : Ev (fun k => spec_l1Read.f k s) (readP s) := by
  have hin : spec_l1In.f (s.size : Int) 1 6 = some (decide (s.size ≥ 1 ∧ s.size ≤ 6)) := by
    unfold spec_l1In.f
    by_cases h1 : (s.size : Int) ≥ 1 <;> by_cases h2 : (s.size : Int) ≤ 6
    · have : s.size ≥ 1 ∧ s.size ≤ 6 := by omega
      simp [h1, h2, this]
    · have : ¬ (s.size ≥ 1 ∧ s.size ≤ 6) := by omega
      simp [h1, h2, this]
    · have : ¬ (s.size ≥ 1 ∧ s.size ≤ 6) := by omega
      simp [h1, h2, this]
    · have : ¬ (s.size ≥ 1 ∧ s.size ≤ 6) := by omega
      simp [h1, h2, this]
  have jt : Ev (fun k => spec_l1Read.j0 k s true) (-1) := Ev.step (fun k => by simp only [spec_l1Read.j0, if_true] <;> exact rfl) (ev_now _)
  have jf : Ev (fun k => spec_l1Read.j0 k s false) (readG s s.size 0 0) := Ev.step (fun k => by simp only [spec_l1Read.j0, Bool.false_eq_true, if_false] <;> exact rfl) (read_l0 s hs s.size 0 0 (Nat.zero_add _))
  unfold spec_l1Read.f readP
  rw [hin]
  simp only [Option.bind_some]
  by_cases h1 : s.size ≥ 1 ∧ s.size ≤ 6
  · have q : (0 : Int) < (s.size : Int) := by omega
    simp only [decide_eq_true h1, if_true, if_pos q]
    by_cases h2 : bt s 0 = 48
    · simp only [if_pos h2]
      by_cases h3 : s.size > 1
      · have h3' : decide ((s.size : Int) > 1) = true := decide_eq_true (by omega)
        rw [if_neg (fun h => h.2.2 ⟨h2, h3⟩)]
        simp only [h3']
        exact jt
      · have h3' : decide ((s.size : Int) > 1) = false := decide_eq_false (by omega)
        rw [if_pos ⟨h1.1, h1.2, fun h => h3 h.2⟩]
        simp only [h3']
        exact jf
    · simp only [if_neg h2]
      rw [if_pos ⟨h1.1, h1.2, fun h => h2 h.1⟩]
      exact jf
  · rw [if_neg (fun h => h1 ⟨h.1, h.2.1⟩)]
    simp only [decide_eq_false h1, Bool.false_eq_true, if_false]
    exact jt
def rdV (p : ByteArray) : S47 := ⟨readP ((pieces 62 p).getD 0 ByteArray.empty), readP ((pieces 62 p).getD 1 ByteArray.empty)⟩
def finL (s : ByteArray) (out : List S47) : List S47 × Bool := if areLettersB 10 out = true then (if (textL out).toList = s.toList then (out, true) else ([], false)) else ([], false)
def specL (s : ByteArray) : List S47 × Bool := if s.size > 240 then ([], false) else if s.size > 0 then (if (pieces 45 s).all (fun p => (pieces 62 p).length == 2) = true then finL s ((pieces 45 s).map rdV) else ([], false)) else finL s []
theorem mem_sum (x : Nat) : ∀ l : List Nat, x ∈ l → x ≤ l.sum
  | [], h => by cases h
  | y :: l, h => by
    rw [List.sum_cons]
    rcases List.mem_cons.1 h with h | h
    · omega
    · have := mem_sum x l h; omega
theorem piece_size {c : UInt8} {s p : ByteArray} (h : p ∈ pieces c s) : p.size ≤ s.size := by
  have h1 := pieces_len c s
  have h2 := mem_sum p.size ((pieces c s).map ByteArray.size) (List.mem_map_of_mem h)
  have h3 : 0 < (pieces c s).length := List.length_pos_of_mem h
  omega
theorem spec_j1 (s : ByteArray) (out : List S47) (h : out.length ≤ 1048576) : Ev (fun k => spec_ParseLetters.j1 k s out) (finL s out) := by
  unfold finL
  refine Ev.step (fun k => by simp only [spec_ParseLetters.j1] <;> exact rfl) (Ev.bind (leGood_ev 10 out h) ?_)
  cases hg : areLettersB 10 out with
  | false => simpa using ev_now _
  | true =>
    simp only [if_true]
    refine Ev.bind (leText_ev out h (areLettersB_true hg).2.2.2) ?_
    by_cases hq : (textL out).toList = s.toList
    · simp only [if_pos hq]; exact ev_now _
    · simp only [if_neg hq]; exact ev_now _
theorem spec_l0 (s : ByteArray) (xs : List ByteArray) (hl : xs.length ≤ 1048576) (hsz : ∀ p ∈ xs, p.size ≤ 1048576) : ∀ (d i : Nat), i + d = xs.length →
    Ev (fun k => spec_ParseLetters.l0 k s ((xs.take i).map rdV) xs (xs.length : Int) (i : Int)) (if (xs.drop i).all (fun p => (pieces 62 p).length == 2) = true then finL s (xs.map rdV) else ([], false)) := by
  intro d
  induction d with
  | zero =>
    intro i hi
    have hi' : ¬ (i : Int) < (xs.length : Int) := by omega
    rw [List.drop_eq_nil_of_le (by omega), List.all_nil, if_pos rfl, List.take_of_length_le (by omega)]
    exact Ev.step (fun k => by simp only [spec_ParseLetters.l0, if_neg hi'] <;> exact rfl) (spec_j1 s _ (by rw [List.length_map]; exact hl))
  | succ d ih =>
    intro i hi
    have hlt : i < xs.length := by omega
    have q1 : (i : Int) < (xs.length : Int) := by omega
    have q2 : (0 : Int) ≤ (i : Int) := by omega
    have ei := w64 (show -9223372036854775808 ≤ (i : Int) + 1 by omega) (by omega)
    have hn := ih (i + 1) (by omega)
    have hm := hsz (xs.getD i ByteArray.empty) (by rw [getD_at _ _ _ hlt]; exact List.getElem_mem hlt)
    rw [drop_at xs i ByteArray.empty hlt, List.all_cons]
    rw [take_at xs i ByteArray.empty hlt, List.map_append] at hn
    have er : rdOf ByteArray.empty xs (i : Int) = xs.getD i ByteArray.empty := rfl
    generalize xs.getD i ByteArray.empty = p at hn hm er ⊢
    have q3 : ((xs.take i).map rdV).length < 8796093022208 := by rw [List.length_map, List.length_take]; omega
    refine Ev.step (fun k => by simp only [spec_ParseLetters.l0, if_pos q1, if_pos q2, er, if_pos q3, ei] <;> exact rfl) ?_
    refine Ev.bind (l1Split_ev p 62 62 rfl hm) ?_
    by_cases h2 : (pieces 62 p).length = 2
    · have p1 : ((pieces 62 p).length : Int) = 2 := by omega
      have p2 : (0 : Int) < ((pieces 62 p).length : Int) := by omega
      have p3 : (1 : Int) < ((pieces 62 p).length : Int) := by omega
      have r0 : rdOf ByteArray.empty (pieces 62 p) 0 = (pieces 62 p).getD 0 ByteArray.empty := rfl
      have r1 : rdOf ByteArray.empty (pieces 62 p) 1 = (pieces 62 p).getD 1 ByteArray.empty := rfl
      have s0 := piece_size (c := 62) (s := p) (p := (pieces 62 p).getD 0 ByteArray.empty) (by rw [getD_at _ _ _ (by omega : 0 < (pieces 62 p).length)]; exact List.getElem_mem _)
      have s1 := piece_size (c := 62) (s := p) (p := (pieces 62 p).getD 1 ByteArray.empty) (by rw [getD_at _ _ _ (by omega : 1 < (pieces 62 p).length)]; exact List.getElem_mem _)
      have hb : ((pieces 62 p).length == 2) = true := by simp [h2]
      rw [hb, Bool.true_and]
      simp only [if_pos p1, if_pos p2, r0, r1]
      refine Ev.bind (read_ev _ (by omega)) ?_
      simp only [if_pos p3]
      refine Ev.bind (read_ev _ (by omega)) ?_
      exact hn
    · have p1 : ¬ ((pieces 62 p).length : Int) = 2 := by omega
      have hb : ((pieces 62 p).length == 2) = false := by simp [h2]
      rw [hb, Bool.false_and]
      simp only [if_neg p1, Bool.false_eq_true, if_false]
      exact ev_now _
theorem specL_ev (s : ByteArray) (h : s.size ≤ 1048575) : Ev (fun k => spec_ParseLetters.f k s) (specL s) := by
  unfold spec_ParseLetters.f specL
  by_cases h1 : s.size > 240
  · have h1' : (s.size : Int) > 240 := by omega
    simp only [if_pos h1, if_pos h1']; exact ev_now _
  · have h1' : ¬ (s.size : Int) > 240 := by omega
    simp only [if_neg h1, if_neg h1']
    by_cases h2 : s.size > 0
    · have h2' : (s.size : Int) > 0 := by omega
      simp only [if_pos h2, if_pos h2']
      refine Ev.bind (l1Split_ev s 45 45 rfl (by omega)) ?_
      have := spec_l0 s (pieces 45 s) (by have := pieces_len 45 s; omega) (fun p hp => by have := piece_size hp; omega) _ 0 (Nat.zero_add _)
      rw [List.drop_zero] at this
      exact this
    · have h2' : ¬ (s.size : Int) > 0 := by omega
      simp only [if_neg h2, if_neg h2']
      exact spec_j1 s [] (Nat.zero_le _)
theorem impl_l0 (xs : List ByteArray) (hl : xs.length ≤ 2000000) : ∀ (d i : Nat), i + d = xs.length →
    Ev (fun k => impl_ParseLetters.l0 k ((xs.take i).map pcL) xs (xs.length : Int) (i : Int)) (if (xs.drop i).all (fun p => p.size == 3 && bt p 1 == 62) = true then (if areLettersB 10 (xs.map pcL) = true then (xs.map pcL, true) else ([], false)) else ([], false)) := by
  intro d
  induction d with
  | zero =>
    intro i hi
    have hi' : ¬ (i : Int) < (xs.length : Int) := by omega
    rw [List.drop_eq_nil_of_le (by omega), List.all_nil, if_pos rfl, List.take_of_length_le (by omega)]
    refine Ev.step (fun k => by simp only [impl_ParseLetters.l0, if_neg hi', impl_AreLetters.f, Option.bind_some] <;> exact rfl) ?_
    cases areLettersB 10 (xs.map pcL) with
    | true => exact ev_now _
    | false => exact ev_now _
  | succ d ih =>
    intro i hi
    have hlt : i < xs.length := by omega
    have q1 : (i : Int) < (xs.length : Int) := by omega
    have q2 : (0 : Int) ≤ (i : Int) := by omega
    have ei := w64 (show -9223372036854775808 ≤ (i : Int) + 1 by omega) (by omega)
    have hn := ih (i + 1) (by omega)
    rw [drop_at xs i ByteArray.empty hlt, List.all_cons]
    rw [take_at xs i ByteArray.empty hlt, List.map_append] at hn
    have er : rdOf ByteArray.empty xs (i : Int) = xs.getD i ByteArray.empty := rfl
    generalize xs.getD i ByteArray.empty = p at hn er ⊢
    by_cases h2 : p.size = 3
    · have p1 : (p.size : Int) = 3 := by omega
      have p2 : (1 : Int) < (p.size : Int) := by omega
      have p3 : (0 : Int) < (p.size : Int) := by omega
      have p4 : (2 : Int) < (p.size : Int) := by omega
      have q3 : ((xs.take i).map pcL).length < 8796093022208 := by rw [List.length_map, List.length_take]; omega
      by_cases h3 : bt p 1 = 62
      · have ho : (p.size == 3 && bt p 1 == 62) = true := by simp [h2, h3]
        rw [ho, Bool.true_and]
        refine Ev.step (fun k => by simp only [impl_ParseLetters.l0, if_pos q1, if_pos q2, er, if_pos p1, if_pos p2, if_pos h3, if_pos p3, if_pos p4, if_pos q3, ei] <;> exact rfl) ?_
        exact hn
      · have ho : (p.size == 3 && bt p 1 == 62) = false := by simp [h3]
        rw [ho, Bool.false_and]
        simp only [Bool.false_eq_true, if_false]
        exact Ev.step (fun k => by simp only [impl_ParseLetters.l0, if_pos q1, if_pos q2, er, if_pos p1, if_pos p2, if_neg h3] <;> exact rfl) (ev_now _)
    · have p1 : ¬ (p.size : Int) = 3 := by omega
      have ho : (p.size == 3 && bt p 1 == 62) = false := by simp [h2]
      rw [ho, Bool.false_and]
      simp only [Bool.false_eq_true, if_false]
      exact Ev.step (fun k => by simp only [impl_ParseLetters.l0, if_pos q1, if_pos q2, er, if_neg p1] <;> exact rfl) (ev_now _)
theorem all_okL (xs : List ByteArray) : (xs.all okL = true ∧ xs.length ≤ 60) ↔ (xs.all (fun p => p.size == 3 && bt p 1 == 62) = true ∧ areLettersB 10 (xs.map pcL) = true) := by
  have e : areLettersB 10 (xs.map pcL) = (decide (xs.length ≤ 60) && xs.all fun p => isLetterB 10 (pcL p).f0 (pcL p).f1) := by
    simp [areLettersB, List.all_map, Function.comp_def]
  rw [e]
  simp only [okL, List.all_eq_true, Bool.and_eq_true, decide_eq_true_eq]
  exact ⟨fun ⟨h1, h2⟩ => ⟨fun p hp => ⟨(h1 p hp).1, (h1 p hp).2.1⟩, h2, fun p hp => (h1 p hp).2.2⟩, fun ⟨h1, h2, h3⟩ => ⟨fun p hp => ⟨(h1 p hp).1, (h1 p hp).2, h3 p hp⟩, h2⟩⟩
theorem parseL_ev (s : ByteArray) (h : s.size ≤ 1048576) : Ev (fun k => impl_ParseLetters.f k s) (parseL s) := by
  unfold impl_ParseLetters.f parseL
  simp only [Option.bind_some]
  by_cases h0 : s.size = 0
  · have h0' := (empty_iff s).2 h0
    simp only [if_pos h0, if_pos h0']
    exact ev_now _
  · have h0' : ¬ s.toList = [] := fun e => h0 ((empty_iff s).1 e)
    simp only [if_neg h0, if_neg h0', split_f 45 s h, Option.bind_some]
    have := impl_l0 (pieces 45 s) (by have := pieces_len 45 s; omega) _ 0 (Nat.zero_add _)
    rw [List.drop_zero] at this
    have e : (if (pieces 45 s).all okL = true ∧ (pieces 45 s).length ≤ 60 then ((pieces 45 s).map pcL, true) else ([], false)) = (if (pieces 45 s).all (fun p => p.size == 3 && bt p 1 == 62) = true then (if areLettersB 10 ((pieces 45 s).map pcL) = true then ((pieces 45 s).map pcL, true) else ([], false)) else ([], false)) := by
      have hi := all_okL (pieces 45 s)
      by_cases ha : (pieces 45 s).all (fun p => p.size == 3 && bt p 1 == 62) = true <;> by_cases hb : areLettersB 10 ((pieces 45 s).map pcL) = true
      · rw [if_pos (hi.2 ⟨ha, hb⟩), if_pos ha, if_pos hb]
      · rw [if_neg (fun h => hb (hi.1 h).2), if_pos ha, if_neg hb]
      · rw [if_neg (fun h => ha (hi.1 h).1), if_neg ha]
      · rw [if_neg (fun h => ha (hi.1 h).1), if_neg ha]
    rw [e]
    exact this
/-! the two are one -/
theorem three {p : ByteArray} (h : p.size = 3) : ∃ a m b, p = mkB [a, m, b] := by
  have h1 : p.data.toList.length = 3 := by rw [← bsize]; exact h
  match hp : p.data.toList, h1 with
  | [a, m, b], _ => exact ⟨a, m, b, by rw [← hp, mkB_data]⟩
theorem bt0 (a m b : UInt8) : bt (mkB [a, m, b]) 0 = ((a.toNat : Nat) : Int) := rfl
theorem bt1 (a m b : UInt8) : bt (mkB [a, m, b]) 1 = ((m.toNat : Nat) : Int) := rfl
theorem bt2 (a m b : UInt8) : bt (mkB [a, m, b]) 2 = ((b.toNat : Nat) : Int) := rfl
theorem pc_eq (a m b : UInt8) : pcL (mkB [a, m, b]) = ⟨((a.toNat : Nat) : Int) - 48, ((b.toNat : Nat) : Int) - 48⟩ := by
  have ha := UInt8.toNat_lt a
  have hb := UInt8.toNat_lt b
  unfold pcL
  rw [bt0, bt2, w64 (x := ((a.toNat : Nat) : Int)) (by omega) (by omega), w64 (x := ((b.toNat : Nat) : Int)) (by omega) (by omega), w64 (by omega) (by omega), w64 (by omega) (by omega)]
theorem ok_form {p : ByteArray} (h : okL p = true) : ∃ a b : UInt8, p = mkB [a, 62, b] ∧ 48 ≤ a.toNat ∧ a.toNat ≤ 57 ∧ 48 ≤ b.toNat ∧ b.toNat ≤ 57 := by
  unfold okL at h
  simp only [Bool.and_eq_true, beq_iff_eq] at h
  obtain ⟨h1, h2, h3⟩ := h
  obtain ⟨a, m, b, rfl⟩ := three h1
  rw [bt1] at h2
  rw [pc_eq] at h3
  have hm : m = 62 := UInt8.toNat_inj.1 (by show m.toNat = 62; omega)
  obtain ⟨g1, g2, g3, g4⟩ := isLetterB_nums h3
  simp only at g1 g2 g3 g4
  exact ⟨a, b, by rw [hm], by omega, by omega, by omega, by omega⟩
theorem digit_u8 (a : UInt8) (h : 48 ≤ a.toNat) : numT (((a.toNat : Nat) : Int) - 48) = mkB [a] := by
  unfold numT
  rw [show 48 + (((a.toNat : Nat) : Int) - 48) = ((a.toNat : Nat) : Int) by omega]
  apply bext
  rw [strOfNums_data]
  simp [mkB]
theorem read_digit (a : UInt8) (h : 48 ≤ a.toNat) (h2 : a.toNat ≤ 57) : readP (mkB [a]) = ((a.toNat : Nat) : Int) - 48 := by
  have hs : (mkB [a]).size = 1 := rfl
  have hb : bt (mkB [a]) ((0 : Nat) : Int) = ((a.toNat : Nat) : Int) := rfl
  unfold readP
  rw [hs, if_pos ⟨by omega, by omega, fun h => by omega⟩, readG, hb, if_neg (by omega), if_neg (by omega), readG]
  rw [w64 (x := 10 * 0) (by omega) (by omega), show ((((a.toNat : Nat) : Int) - 48) % 256) = ((a.toNat : Nat) : Int) - 48 by omega, w64 (by omega) (by omega)]
  omega
theorem sp_three (a b : UInt8) (ha : a ≠ 62) (hb : b ≠ 62) : sp 62 [a, 62, b] = [[a], [b]] := by
  simp [sp, ha, hb]
theorem ok_read {p : ByteArray} (h : okL p = true) : (pieces 62 p).length = 2 ∧ rdV p = pcL p ∧ txtL (pcL p) = p := by
  obtain ⟨a, b, rfl, h1, h2, h3, h4⟩ := ok_form h
  have ha : a ≠ 62 := fun e => by rw [e] at h2; exact absurd h2 (by decide)
  have hb : b ≠ 62 := fun e => by rw [e] at h4; exact absurd h4 (by decide)
  have e : pieces 62 (mkB [a, 62, b]) = [mkB [a], mkB [b]] := by
    show (sp 62 [a, 62, b]).map mkB = _
    rw [sp_three a b ha hb]; rfl
  refine ⟨by rw [e]; rfl, ?_, ?_⟩
  · unfold rdV
    rw [e, pc_eq]
    show (⟨readP (mkB [a]), readP (mkB [b])⟩ : S47) = _
    rw [read_digit a h1 h2, read_digit b h3 h4]
  · rw [pc_eq]
    show (numT (((a.toNat : Nat) : Int) - 48) ++ ⟨#[62]⟩) ++ numT (((b.toNat : Nat) : Int) - 48) = _
    rw [digit_u8 a h1, digit_u8 b h3]
    apply bext
    rw [bapp, bapp]
    rfl
theorem txt_form (c : S47) (h : isLetterB 10 c.f0 c.f1 = true) : ∃ a b : UInt8, txtL c = mkB [a, 62, b] ∧ ((a.toNat : Nat) : Int) = 48 + c.f0 ∧ ((b.toNat : Nat) : Int) = 48 + c.f1 := by
  obtain ⟨h1, h2, h3, h4⟩ := isLetterB_nums h
  refine ⟨UInt8.ofNat (48 + c.f0).toNat, UInt8.ofNat (48 + c.f1).toNat, ?_, ?_, ?_⟩
  · apply bext
    rw [txtL, bapp, bapp]
    rfl
  · rw [UInt8.toNat_ofNat']; omega
  · rw [UInt8.toNat_ofNat']; omega
theorem txt_ok (c : S47) (h : isLetterB 10 c.f0 c.f1 = true) : okL (txtL c) = true ∧ (45 : UInt8) ∉ (txtL c).data.toList := by
  obtain ⟨a, b, e, h1, h2⟩ := txt_form c h
  obtain ⟨g1, g2, g3, g4⟩ := isLetterB_nums h
  rw [e]
  constructor
  · unfold okL
    rw [pc_eq, bt1]
    have e1 : ((a.toNat : Nat) : Int) - 48 = c.f0 := by omega
    have e2 : ((b.toNat : Nat) : Int) - 48 = c.f1 := by omega
    rw [e1, e2, h]
    rfl
  · intro hm
    have hm' : (45 : UInt8) ∈ [a, (62 : UInt8), b] := hm
    simp only [List.mem_cons, List.mem_nil_iff, or_false] at hm'
    rcases hm' with h3 | h3 | h3
    · have : a.toNat = 45 := by rw [← h3]; rfl
      omega
    · exact absurd h3 (by decide)
    · have : b.toNat = 45 := by rw [← h3]; rfl
      omega
theorem toList_inj {a b : ByteArray} (h : a.toList = b.toList) : a = b := bext (by rw [← Lib.toList_data, ← Lib.toList_data]; exact h)
theorem spec_parse (s : ByteArray) : specL s = parseL s := by
  unfold specL parseL
  by_cases h0 : s.size = 0
  · rw [if_pos h0, if_neg (by omega), if_neg (by omega)]
    have hs : s = ⟨#[]⟩ := by
      apply bext
      have : s.data.toList.length = 0 := by rw [← bsize]; exact h0
      exact List.length_eq_zero_iff.1 this
    subst hs
    show finL ⟨#[]⟩ [] = ([], true)
    unfold finL
    rw [if_pos (by unfold areLettersB; simp), if_pos (by rfl)]
  · rw [if_neg h0, if_pos (by omega : s.size > 0)]
    by_cases hok : (pieces 45 s).all okL = true ∧ (pieces 45 s).length ≤ 60
    · rw [if_pos hok]
      have hall := List.all_eq_true.1 hok.1
      have e1 : (pieces 45 s).map rdV = (pieces 45 s).map pcL := List.map_congr_left (fun p hp => (ok_read (hall p hp)).2.1)
      have e2 : textL ((pieces 45 s).map pcL) = s := by
        have : ((pieces 45 s).map pcL).map txtL = pieces 45 s := by
          rw [List.map_map]
          conv => rhs; rw [← List.map_id (pieces 45 s)]
          exact List.map_congr_left (fun p hp => (ok_read (hall p hp)).2.2)
        rw [textL, this, joinT_pieces]
      have e3 : (pieces 45 s).all (fun p => (pieces 62 p).length == 2) = true := by
        rw [List.all_eq_true]
        intro p hp
        rw [(ok_read (hall p hp)).1]; rfl
      have hsz := textL_size ((pieces 45 s).map pcL)
      rw [e2, List.length_map] at hsz
      rw [if_neg (by omega), if_pos e3, e1, finL, if_pos ((all_okL _).1 hok).2, if_pos (by rw [e2])]
    · rw [if_neg hok]
      have key : ∀ out : List S47, areLettersB 10 out = true → (textL out).toList = s.toList → False := by
        intro out hg ht
        have hst := toList_inj ht
        have hc := (areLettersB_true hg).2.2
        have hne : out ≠ [] := by
          rintro rfl
          rw [← hst] at h0
          exact h0 rfl
        have e : pieces 45 s = out.map txtL := by
          rw [← hst, textL]
          refine pieces_join 45 (out.map txtL) (by simpa using hne) (fun x hx => ?_)
          obtain ⟨c, hm, rfl⟩ := List.mem_map.1 hx
          exact (txt_ok c (hc.2 c hm)).2
        apply hok
        rw [e, List.length_map]
        refine ⟨?_, hc.1⟩
        rw [List.all_eq_true]
        intro x hx
        obtain ⟨c, hm, rfl⟩ := List.mem_map.1 hx
        exact (txt_ok c (hc.2 c hm)).1
      have hfin : ∀ out, finL s out = ([], false) := by
        intro out
        unfold finL
        by_cases hg : areLettersB 10 out = true
        · rw [if_pos hg]
          by_cases ht : (textL out).toList = s.toList
          · exact absurd (key out hg ht) id
          · rw [if_neg ht]
        · rw [if_neg hg]
      rw [hfin]
      simp
def resP (s : ByteArray) : List S47 × Bool := parseL s
theorem resP_length (s : ByteArray) : (resP s).1.length ≤ 1048576 := by
  show (parseL s).1.length ≤ _
  unfold parseL
  split
  · exact Nat.zero_le _
  · split
    · rename_i h; rw [List.length_map]; omega
    · exact Nat.zero_le _
theorem spec_ev (s : ByteArray) (h : s.size ≤ 1048576) : Ev (fun k => spec_ParseLetters.f k s) (resP s) := by
  show Ev _ (parseL s)
  rw [← spec_parse]
  by_cases h2 : s.size ≤ 1048575
  · exact specL_ev s h2
  · unfold spec_ParseLetters.f specL
    have h1 : s.size > 240 := by omega
    have h1' : (s.size : Int) > 240 := by omega
    simp only [if_pos h1, if_pos h1']; exact ev_now _
theorem impl_ev (s : ByteArray) (h : s.size ≤ 1048576) : Ev (fun k => impl_ParseLetters.f k s) (resP s) := parseL_ev s h
theorem FnExactParseLetters : laws_FnExactParseLetters.Pure := by
  intro a0 w0
  apply Ev.rounds
  unfold laws_FnExactParseLetters.f
  by_cases h1 : (a0.size : Int) > 1048576
  · simp only [if_pos h1]
    exact ev_now _
  simp only [if_neg h1]
  have h2 : a0.size ≤ 1048576 := by omega
  refine Ev.bind (spec_ev a0 h2) ?_
  refine Ev.bind (impl_ev a0 h2) ?_
  have hr : (resP a0).1.length ≤ 1048576 := resP_length a0
  have hm2 : ¬ (1 + 2 * (((resP a0).1.length : Nat) : Int)) < 0 := by omega
  refine Ev.bind (eqLetterS_ev _ hr) ?_
  simp only [bne_self_eq_false, Bool.false_eq_true, if_false, if_true]
  refine Ev.step (fun k => by simp only [laws_FnExactParseLetters.j0, Bool.false_eq_true, if_false] <;> exact rfl) ?_
  refine Ev.bind (markLetterS_ev _ 1 hr (by omega) (by omega)) ?_
  refine Ev.bind (heldLetterS_ev _ 1 hr (by omega) (by omega)) ?_
  simp only [if_neg hm2, if_true]
  refine Ev.bind (impl_ev a0 h2) ?_
  refine Ev.bind (eqLetterS_ev _ hr) ?_
  simp only [bne_self_eq_false, Bool.false_eq_true, if_false, if_true]
  refine Ev.step (fun k => by simp only [laws_FnExactParseLetters.j1, Bool.false_eq_true, if_false] <;> exact rfl) ?_
  refine Ev.bind (heldLetterS_ev _ 1 hr (by omega) (by omega)) ?_
  simp only [if_neg hm2, if_true]
  exact ev_now _

end Go.Proofs.YtnlmalicpckfbaaDoor.Pure
