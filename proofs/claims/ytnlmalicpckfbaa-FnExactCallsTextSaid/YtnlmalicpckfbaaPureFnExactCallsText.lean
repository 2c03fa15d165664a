/- The pure side of FnExactCallsText: program and reference agree at every argument. No condition beside what an argument is. -/
import Derived.Test.YtnlmalicpckfbaaPFnExactCallsTextx9
import Derived.Test.YtnlmalicpckfbaaPBase
namespace Go.Proofs.Ytnlmalicpckfbaa.Pure
open Go.RowKit Go.Proofs.Ytnlmalicpckfbaa.PFnExactCallsText Go.Proofs.YtnlmalicpckfbaaW.PrintWords Go.Proofs.YtnlmalicpckfbaaW.PrintLast Go.Proofs.YtnlmalicpckfbaaW.PrintMore Go.Proofs.Ytnlmalicpckfbaa.PB
set_option linter.unusedSimpArgs false
set_option linter.unusedVariables false
/-! calls: read, compared, marked -/
def toCalls (l : List S88) : List S68 := l.map fun c => ⟨c.f0, c.f1⟩
theorem toCalls_length (l : List S88) : (toCalls l).length = l.length := by simp [toCalls]

theorem szCallS_small (l : List S88) (h : l.length ≤ 1048576) : laws_szCallS.f l 1048576 = some (1048576 - (l.length : Int)) := by
  unfold laws_szCallS.f
  rw [w64 (by omega) (by omega), if_neg (by omega)]
theorem szCallS_great (l : List S88) (h : ¬ l.length ≤ 1048576) (h2 : l.length ≤ 9223372036854775807) : laws_szCallS.f l 1048576 = some (-1) := by
  unfold laws_szCallS.f
  rw [w64 (by omega) (by omega), if_pos (by omega)]

theorem toCallS_l0 (l : List S88) (h : l.length ≤ 1048576) : ∀ (d : Nat) (i : Int) (acc : List S68), 0 ≤ i → i + d = l.length → acc.length = l.length →
    (∀ j : Nat, (j : Int) < i → acc.getD j z68 = (toCalls l).getD j z68) → Ev (fun k => laws_toCallS.l0 k l acc i) (toCalls l) := by
  intro d
  induction d with
  | zero =>
    intro i acc h0 hi hl hacc
    refine ev_step (f := fun _ => some acc) (fun k => ?_) ?_
    · simp only [laws_toCallS.l0]; rw [if_neg (by omega)]
    · have : acc = toCalls l := ext_getD z68 (by rw [hl, toCalls_length]) (fun j hj => hacc j (by omega))
      rw [this]; exact ev_now _
  | succ d ih =>
    intro i acc h0 hi hl hacc
    refine ev_step (f := fun k => laws_toCallS.l0 k l (acc.set i.toNat ⟨(l.getD i.toNat z88).f0, (l.getD i.toNat z88).f1⟩) (i + 1)) (fun k => ?_) ?_
    · simp only [laws_toCallS.l0, laws_toCall.f, rd_T88, Option.bind_some]
      rw [if_pos (by omega), if_pos h0, if_pos (by omega), w64 (by omega) (by omega)]
    · refine ih (i + 1) _ (by omega) (by omega) (by simpa using hl) (fun j hj => ?_)
      rw [getD_set _ _ _ _ _ (by omega)]
      split
      · rename_i e
        subst e
        rw [toCalls, getD_map (fun c : S88 => (⟨c.f0, c.f1⟩ : S68)) l i.toNat z88 z68 (by omega)]
      · exact hacc j (by omega)
theorem toCallS_ev (l : List S88) (h : l.length ≤ 1048576) : Ev (fun k => laws_toCallS.f k l) (toCalls l) := by
  unfold laws_toCallS.f
  have h1 : (0 : Int) ≤ (l.length : Int) := by omega
  have h2 : ((l.length : Int)).toNat ≤ 17592186044416 := by omega
  simp only [if_pos h1, if_pos h2]
  exact toCallS_l0 l h l.length 0 _ (by omega) (by omega) (by simp) (fun j hj => by omega)

theorem eqCallS_l0 (a : List S68) (h : a.length ≤ 1048576) : ∀ (d : Nat) (i : Int), 0 ≤ i → i + d = a.length → Ev (fun k => laws_eqCallS.l0 k a a i) true := by
  intro d
  induction d with
  | zero =>
    intro i h0 hi
    refine ev_step (f := fun _ => some true) (fun k => ?_) (ev_now _)
    simp only [laws_eqCallS.l0]; rw [if_neg (by omega)]
  | succ d ih =>
    intro i h0 hi
    refine ev_step (f := fun k => laws_eqCallS.l0 k a a (i + 1)) (fun k => ?_) (ih _ (by omega) (by omega))
    simp only [laws_eqCallS.l0, laws_eqCall.f, if_true, Option.bind_some]
    rw [if_pos (by omega), if_pos h0, if_pos (by omega), w64 (by omega) (by omega)]
theorem eqCallS_ev (a : List S68) (h : a.length ≤ 1048576) : Ev (fun k => laws_eqCallS.f k a a) true := by
  unfold laws_eqCallS.f
  simp only [if_true]
  exact eqCallS_l0 a h a.length 0 (by omega) (by omega)

/-! spec.caGood -/
theorem caFriends_f (n : Int) : spec_caFriends.f n = some (decide (1 ≤ n) && decide (n ≤ 10)) := by
  unfold spec_caFriends.f spec_l1In.f
  by_cases h1 : 1 ≤ n <;> by_cases h2 : n ≤ 10 <;> simp [h1, h2]
theorem caCall_f (n a b : Int) (h1 : 1 ≤ n) (h2 : n ≤ 10) : spec_caCall.f n a b = some (isCallB n a b) := by
  unfold spec_caCall.f spec_l1In.f isCallB
  rw [w64 (by omega) (by omega)]
  by_cases g1 : 0 ≤ a
  · by_cases g2 : a ≤ n - 1
    · rw [w64 (by omega) (by omega)]
      by_cases g3 : a + 1 ≤ b <;> by_cases g4 : b ≤ n - 1
      · have e1 : a < b := by omega
        have e2 : b < n := by omega
        simp [g1, g2, g3, g4, e1, e2]
      · have e1 : a < b := by omega
        have e2 : ¬ b < n := by omega
        simp [g1, g2, g3, g4, e1, e2]
      · have e1 : ¬ a < b := by omega
        simp [g1, g2, g3, e1]
      · have e1 : ¬ a < b := by omega
        simp [g1, g2, g3, e1]
    · by_cases g3 : a < b
      · have e2 : ¬ b < n := by omega
        simp [g1, g2, e2]
      · simp [g1, g2, g3]
  · simp [g1]
theorem caGood_l0 (n : Int) (l : List S68) (h : l.length ≤ 1048576) (h1 : 1 ≤ n) (h2 : n ≤ 10) : ∀ (d : Nat) (i : Int), 0 ≤ i → i + d = l.length →
    Ev (fun k => spec_caGood.l0 k n l (l.length : Int) i) ((l.drop i.toNat).all fun c => isCallB n c.f0 c.f1) := by
  intro d
  induction d with
  | zero =>
    intro i h0 hi
    refine ev_step (f := fun _ => some true) (fun k => ?_) ?_
    · simp only [spec_caGood.l0]; rw [if_neg (by omega)]
    · rw [List.drop_eq_nil_of_le (by omega)]; exact ev_now _
  | succ d ih =>
    intro i h0 hi
    have hd := drop_at l i.toNat z68 (by omega)
    cases hq : isCallB n (l.getD i.toNat z68).f0 (l.getD i.toNat z68).f1 with
    | true =>
      refine ev_step (f := fun k => spec_caGood.l0 k n l (l.length : Int) (i + 1)) (fun k => ?_) ?_
      · simp only [spec_caGood.l0, rd_T68, caCall_f n _ _ h1 h2, Option.bind_some, hq, if_true]
        rw [if_pos (by omega), if_pos h0, if_pos (by omega), w64 (by omega) (by omega)]
      · have := ih (i + 1) (by omega) (by omega)
        rw [hd, List.all_cons, hq, Bool.true_and]
        rwa [show (i + 1).toNat = i.toNat + 1 by omega] at this
    | false =>
      refine ev_step (f := fun _ => some false) (fun k => ?_) ?_
      · simp only [spec_caGood.l0, rd_T68, caCall_f n _ _ h1 h2, Option.bind_some, hq]
        rw [if_pos (by omega), if_pos h0, if_pos (by omega), if_neg (by simp)]
      · rw [hd, List.all_cons, hq, Bool.false_and]; exact ev_now _
theorem caGood_ev (n : Int) (l : List S68) (h : l.length ≤ 1048576) : Ev (fun k => spec_caGood.f k n l) (areCallsB n l) := by
  unfold spec_caGood.f
  simp only [caFriends_f, Option.bind_some]
  by_cases h1 : 1 ≤ n ∧ n ≤ 10
  · obtain ⟨h1, h2⟩ := h1
    by_cases h3 : l.length ≤ 60
    · have e : areCallsB n l = l.all fun c => isCallB n c.f0 c.f1 := by simp [areCallsB, h1, h2, h3]
      rw [e]
      have e2 : decide ((l.length : Int) > 60) = false := by rw [decide_eq_false_iff_not]; omega
      simp only [h1, h2, decide_true, Bool.and_self, if_true, e2]
      refine ev_step (f := fun k => spec_caGood.l0 k n l (l.length : Int) 0) (fun k => by simp [spec_caGood.j0]) ?_
      simpa using caGood_l0 n l h h1 h2 l.length 0 (by omega) (by omega)
    · have e : areCallsB n l = false := by simp [areCallsB, h3]
      rw [e]
      have e2 : decide ((l.length : Int) > 60) = true := by rw [decide_eq_true_eq]; omega
      simp only [h1, h2, decide_true, Bool.and_self, if_true, e2]
      exact ev_step (f := fun _ => some false) (fun k => by simp [spec_caGood.j0]) (ev_now _)
  · have e : areCallsB n l = false := by rw [Bool.eq_false_iff]; intro hh; simp [areCallsB] at hh; exact h1 ⟨hh.1, hh.2.1⟩
    have e1 : (decide (1 ≤ n) && decide (n ≤ 10)) = false := by rw [Bool.eq_false_iff]; simpa using h1
    rw [e]
    simp only [e1]
    exact ev_step (f := fun _ => some false) (fun k => by simp [spec_caGood.j0]) (ev_now _)
theorem areCallsB_true {n : Int} {cs : List S68} (h : areCallsB n cs = true) : 1 ≤ n ∧ n ≤ 10 ∧ cs.length ≤ 60 ∧ ∀ c ∈ cs, isCallB n c.f0 c.f1 = true := by
  simp [areCallsB] at h
  exact h

/-! texts: pieces with a byte between them -/
def joinT (s : UInt8) (xs : List ByteArray) : ByteArray := ⟨(Lib.join (xs.map (·.data.toList)) [s]).toArray⟩
theorem bext {a b : ByteArray} (h : a.data.toList = b.data.toList) : a = b := by
  cases a with | mk a => cases b with | mk b => exact congrArg ByteArray.mk (Array.ext' h)
theorem bapp (a b : ByteArray) : (a ++ b).data.toList = a.data.toList ++ b.data.toList := by rw [ByteArray.data_append, Array.toList_append]
theorem bsize (a : ByteArray) : a.size = a.data.toList.length := (Array.length_toList).symm
theorem bsize_app (a b : ByteArray) : (a ++ b).size = a.size + b.size := by rw [bsize, bsize, bsize, bapp, List.length_append]
theorem joinT_nil (s : UInt8) : joinT s [] = ⟨#[]⟩ := rfl
theorem joinT_one (s : UInt8) (x : ByteArray) : joinT s [x] = x := bext (by simp [joinT, Lib.join_one])
theorem joinT_snoc (s : UInt8) (xs : List ByteArray) (y : ByteArray) (h : xs ≠ []) : joinT s (xs ++ [y]) = (joinT s xs ++ ⟨#[s]⟩) ++ y := by
  cases xs with
  | nil => exact absurd rfl h
  | cons x r =>
    apply bext
    rw [bapp, bapp]
    simp only [joinT, List.cons_append, List.map_cons, List.map_append, List.map_nil, Lib.join_cons, Lib.joinTail]
    simp
theorem joinT_size (s : UInt8) (m : Nat) : ∀ (xs : List ByteArray), (∀ x ∈ xs, x.size ≤ m) → (joinT s xs).size ≤ xs.length * (m + 1) := by
  intro xs h
  cases xs with
  | nil => rw [joinT_nil]; exact Nat.zero_le _
  | cons x r =>
    have hl : ∀ (l : List ByteArray), (∀ x ∈ l, x.size ≤ m) → Lib.lens (l.map (·.data.toList)) ≤ l.length * m := by
      intro l
      induction l with
      | nil => intro _; simp [Lib.lens]
      | cons y l ih =>
        intro h
        have h1 := ih (fun x hx => h x (List.mem_cons_of_mem _ hx))
        have h2 := h y List.mem_cons_self
        rw [bsize] at h2
        simp only [Lib.lens, List.map_cons, List.sum_cons, List.length_cons, Nat.add_mul, Nat.one_mul] at h1 ⊢
        omega
    have h1 := hl (x :: r) h
    rw [bsize]
    simp only [joinT, List.map_cons] at h1 ⊢
    rw [Lib.join_length]
    simp only [List.length_map, List.length_cons, List.length_nil] at h1 ⊢
    have e1 : (r.length + 1) * (m + 1) = (r.length + 1) * m + (r.length + 1) := by rw [Nat.mul_add, Nat.mul_one]
    omega
theorem joinT_step (s : UInt8) {α : Type} (f : α → ByteArray) (l : List α) (i : Nat) (d : α) (h0 : 0 < i) (hi : i < l.length) : joinT s ((l.take (i + 1)).map f) = (joinT s ((l.take i).map f) ++ ⟨#[s]⟩) ++ f (l.getD i d) := by
  rw [take_at l i d hi, List.map_append, List.map_cons, List.map_nil, joinT_snoc]
  intro he
  have h1 : ((l.take i).map f).length = 0 := by rw [he]; rfl
  rw [List.length_map, List.length_take] at h1
  omega
theorem joinT_step0 (s : UInt8) {α : Type} (f : α → ByteArray) (l : List α) (d : α) (hi : 0 < l.length) : joinT s ((l.take (0 + 1)).map f) = f (l.getD 0 d) := by
  rw [take_at l 0 d hi]
  simp [joinT_one]
theorem join_f (s : UInt8) (xs : List ByteArray) (m : Nat) (h : ∀ x ∈ xs, x.size ≤ m) (hb : xs.length * (m + 1) ≤ 140737488355328) : strings_Join.f xs ⟨#[s]⟩ = some (joinT s xs) := by
  have h1 := joinT_size s m xs h
  rw [bsize] at h1
  unfold strings_Join.f
  have e : ((joinT s xs).data.toList).length = (Lib.join (xs.map (·.data.toList)) (⟨#[s]⟩ : ByteArray).data.toList).length := by simp [joinT]
  have h2 : xs.length ≤ xs.length * (m + 1) := Nat.le_mul_of_pos_right _ (by omega)
  rw [if_pos ⟨by rw [← e]; omega, by omega⟩]
  rfl
def numT (a : Int) : ByteArray := strOfNums [48 + a]
theorem numT_size (a : Int) : (numT a).size = 1 := strOfNums_size _
theorem l1Num_ev (a : Int) (h0 : 0 ≤ a) (h1 : a < 10) : Ev (fun k => spec_l1Num.f k a) (numT a) := by
  refine ev_step (f := fun _ => some (numT a)) (fun k => ?_) (ev_now _)
  simp only [spec_l1Num.f]
  rw [if_pos h1, w64 (by omega) (by omega), show (48 + a) % 256 = 48 + a by omega]
  rfl

theorem isCallB_nums {a b : Int} (h : isCallB 10 a b = true) : 0 ≤ a ∧ a < 10 ∧ 0 ≤ b ∧ b < 10 := by
  simp [isCallB] at h
  omega
/-! the text of calls -/
def txtC (c : S68) : ByteArray := numT c.f0 ++ numT c.f1
theorem txtC_size (c : S68) : (txtC c).size = 2 := by rw [txtC, bsize_app, numT_size, numT_size]
theorem txtC_of (a b : Int) (h : 0 ≤ a ∧ a < 10) (g : 0 ≤ b ∧ b < 10) : strOfNums [(wrap64 (48 + a)) % 256, (wrap64 (48 + b)) % 256] = numT a ++ numT b := by
  rw [w64 (by omega) (by omega), w64 (by omega) (by omega), show (48 + a) % 256 = 48 + a by omega, show (48 + b) % 256 = 48 + b by omega]
  apply bext
  rw [bapp]
  rfl
def textC (l : List S68) : ByteArray := joinT 45 (l.map txtC)
theorem textC_size (l : List S68) : (textC l).size ≤ l.length * 3 := by
  have := joinT_size 45 2 (l.map txtC) (fun x hx => by obtain ⟨c, _, rfl⟩ := List.mem_map.1 hx; rw [txtC_size]; exact Nat.le_refl _)
  rwa [List.length_map] at this
theorem caText_l0 (l : List S68) (hl : l.length ≤ 1048576) (hc : ∀ c ∈ l, isCallB 10 c.f0 c.f1 = true) : ∀ (d i : Nat), i + d = l.length →
    Ev (fun k => spec_caText.l0 k (joinT 45 ((l.take i).map txtC)) l (l.length : Int) (i : Int)) (textC l) := by
  intro d
  induction d with
  | zero =>
    intro i hi
    have hi' : ¬ (i : Int) < (l.length : Int) := by omega
    refine Ev.step (fun k => by simp only [spec_caText.l0, if_neg hi'] <;> exact rfl) ?_
    rw [List.take_of_length_le (by omega)]
    exact ev_now _
  | succ d ih =>
    intro i hi
    have hlt : i < l.length := by omega
    have q1 : (i : Int) < (l.length : Int) := by omega
    have q2 : (0 : Int) ≤ (i : Int) := by omega
    have hm := hc (l.getD i z68) (by rw [getD_at _ _ _ hlt]; exact List.getElem_mem hlt)
    have hsz : (joinT 45 ((l.take i).map txtC)).size ≤ 3 * 1048576 := by
      have := textC_size (l.take i)
      rw [List.length_take] at this
      show (textC (l.take i)).size ≤ _
      omega
    have hn := ih (i + 1) (by omega)
    have hc1 := isCallB_nums hm
    have ei := w64 (show -9223372036854775808 ≤ (i : Int) + 1 by omega) (by omega)
    have er : rd_T68 l (i : Int) = l.getD i z68 := rfl
    have e1 := l1Num_ev _ hc1.1 hc1.2.1
    have e2 := l1Num_ev _ hc1.2.2.1 hc1.2.2.2
    by_cases h0 : i = 0
    · subst h0
      have q3 : ¬ ((0 : Nat) : Int) > 0 := by omega
      refine Ev.step (fun k => by simp only [spec_caText.l0, if_pos q1, if_pos q2, if_neg q3, er, ei] <;> exact rfl) ?_
      refine Ev.bind e1 ?_
      refine Ev.bind e2 ?_
      have p1 : (numT (l.getD 0 z68).f0).size + (numT (l.getD 0 z68).f1).size ≤ 9223372036854775807 := by rw [numT_size, numT_size]; omega
      have p2 : (joinT 45 ((l.take 0).map txtC)).size + (numT (l.getD 0 z68).f0 ++ numT (l.getD 0 z68).f1).size ≤ 9223372036854775807 := by rw [bsize_app, numT_size, numT_size]; omega
      simp only [if_pos p1, if_pos p2]
      rw [joinT_step0 45 txtC l z68 hlt] at hn
      have e3 : joinT 45 ((l.take 0).map txtC) ++ (numT (l.getD 0 z68).f0 ++ numT (l.getD 0 z68).f1) = txtC (l.getD 0 z68) := by
        apply bext; rw [bapp]; rfl
      rw [e3]
      exact hn
    · have q3 : (i : Int) > 0 := by omega
      have q4 : (joinT 45 ((l.take i).map txtC)).size + 1 ≤ 9223372036854775807 := by omega
      refine Ev.step (fun k => by simp only [spec_caText.l0, if_pos q1, if_pos q2, if_pos q3, if_pos q4, er, ei] <;> exact rfl) ?_
      refine Ev.bind e1 ?_
      refine Ev.bind e2 ?_
      have p1 : (numT (l.getD i z68).f0).size + (numT (l.getD i z68).f1).size ≤ 9223372036854775807 := by rw [numT_size, numT_size]; omega
      have s1 : ∀ x : UInt8, ByteArray.size ⟨#[x]⟩ = 1 := fun _ => rfl
      have p2 : (joinT 45 ((l.take i).map txtC) ++ ⟨#[45]⟩).size + (numT (l.getD i z68).f0 ++ numT (l.getD i z68).f1).size ≤ 9223372036854775807 := by rw [bsize_app, bsize_app, numT_size, numT_size, s1]; omega
      simp only [if_pos p1, if_pos p2]
      rw [joinT_step 45 txtC l i z68 (by omega) hlt] at hn
      exact hn
theorem caText_ev (l : List S68) (hl : l.length ≤ 1048576) (hc : ∀ c ∈ l, isCallB 10 c.f0 c.f1 = true) : Ev (fun k => spec_caText.f k l) (textC l) := by
  unfold spec_caText.f
  exact caText_l0 l hl hc l.length 0 (by omega)
theorem callsText_l0 (l : List S68) (hl : l.length ≤ 1048576) (hc : ∀ c ∈ l, isCallB 10 c.f0 c.f1 = true) : ∀ (d i : Nat), i + d = l.length →
    Ev (fun k => impl_callsText.l0 k ((l.take i).map txtC) l (l.length : Int) (i : Int)) (textC l) := by
  intro d
  induction d with
  | zero =>
    intro i hi
    have hi' : ¬ (i : Int) < (l.length : Int) := by omega
    have hj := join_f 45 (l.map txtC) 2 (fun x hx => by obtain ⟨c, _, rfl⟩ := List.mem_map.1 hx; rw [txtC_size]; exact Nat.le_refl _) (by rw [List.length_map]; omega)
    rw [List.take_of_length_le (by omega)]
    refine Ev.step (fun k => by simp only [impl_callsText.l0, if_neg hi', hj, Option.bind_some] <;> exact rfl) ?_
    exact ev_now _
  | succ d ih =>
    intro i hi
    have hlt : i < l.length := by omega
    have q1 : (i : Int) < (l.length : Int) := by omega
    have q2 : (0 : Int) ≤ (i : Int) := by omega
    have hm := hc (l.getD i z68) (by rw [getD_at _ _ _ hlt]; exact List.getElem_mem hlt)
    have hc1 := isCallB_nums hm
    have ei := w64 (show -9223372036854775808 ≤ (i : Int) + 1 by omega) (by omega)
    have er : rd_T68 l (i : Int) = l.getD i z68 := rfl
    have q3 : ((l.take i).map txtC).length < 8796093022208 := by rw [List.length_map, List.length_take]; omega
    have et := txtC_of _ _ ⟨hc1.1, hc1.2.1⟩ ⟨hc1.2.2.1, hc1.2.2.2⟩
    refine Ev.step (fun k => by simp only [impl_callsText.l0, if_pos q1, if_pos q2, if_pos q3, er, ei, et] <;> exact rfl) ?_
    have hn := ih (i + 1) (by omega)
    rw [take_at l i z68 hlt, List.map_append] at hn
    exact hn
theorem callsText_ev (l : List S68) (hl : l.length ≤ 1048576) (hc : ∀ c ∈ l, isCallB 10 c.f0 c.f1 = true) : Ev (fun k => impl_callsText.f k l) (textC l) := by
  unfold impl_callsText.f
  exact callsText_l0 l hl hc l.length 0 (by omega)

def resP (l : List S68) : ByteArray × Bool := if areCallsB 10 l = true then (textC l, true) else (⟨#[]⟩, false)
theorem spec_ev (l : List S68) (h : l.length ≤ 1048576) : Ev (fun k => spec_CallsText.f k l) (resP l) := by
  unfold spec_CallsText.f resP
  refine Ev.bind (caGood_ev 10 l h) ?_
  cases hg : areCallsB 10 l with
  | false => simpa using ev_now _
  | true =>
    simp only [if_true]
    exact Ev.bind (caText_ev l h (areCallsB_true hg).2.2.2) (ev_now _)
theorem impl_ev (l : List S68) (h : l.length ≤ 1048576) : Ev (fun k => impl_CallsText.f k l) (resP l) := by
  unfold impl_CallsText.f resP
  simp only [impl_AreCalls.f, Option.bind_some]
  cases hg : areCallsB 10 l with
  | false => simpa using ev_now _
  | true =>
    simp only [if_true]
    exact Ev.bind (callsText_ev l h (areCallsB_true hg).2.2.2) (ev_now _)
theorem FnExactCallsText : ∀ (l0 : (List S88)), l0.length ≤ 9223372036854775807 → ∃ k, laws_FnExactCallsText.f k l0 = some true := by
  intro l1 hl
  apply Ev.rounds
  unfold laws_FnExactCallsText.f
  by_cases h : l1.length ≤ 1048576
  · simp only [szCallS_small l1 h, Option.bind_some]
    have h0 : ¬ (1048576 - (l1.length : Int)) < 0 := by omega
    simp only [if_neg h0]
    have hl' : (toCalls l1).length ≤ 1048576 := by rw [toCalls_length]; exact h
    refine Ev.bind (toCallS_ev l1 h) ?_
    refine Ev.bind (spec_ev _ hl') ?_
    refine Ev.bind (toCallS_ev l1 h) ?_
    refine Ev.bind (impl_ev _ hl') ?_
    simp only [if_true, bne_self_eq_false]
    refine Ev.step (fun k => by simp only [laws_FnExactCallsText.j0, Bool.false_eq_true, if_false] <;> exact rfl) ?_
    refine Ev.bind (toCallS_ev l1 h) ?_
    refine Ev.bind (eqCallS_ev _ hl') ?_
    simp only [if_true]
    exact ev_now _
  · simp only [szCallS_great l1 h hl, Option.bind_some]
    exact ev_now _

end Go.Proofs.Ytnlmalicpckfbaa.Pure
