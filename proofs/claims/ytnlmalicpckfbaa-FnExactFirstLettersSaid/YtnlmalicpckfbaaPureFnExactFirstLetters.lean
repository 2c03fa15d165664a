/- The pure side of FnExactFirstLetters: program and reference agree at every argument. No condition beside what an argument is. -/
import Derived.Test.YtnlmalicpckfbaaPFnExactFirstLettersx12
import Derived.Test.YtnlmalicpckfbaaPBase
import Derived.Test.YtnlmalicpckfbaaHBits
namespace Go.Proofs.Ytnlmalicpckfbaa.Pure
open Go.RowKit Go.Proofs.Ytnlmalicpckfbaa.PFnExactFirstLetters Go.Proofs.YtnlmalicpckfbaaW.PrintWords Go.Proofs.YtnlmalicpckfbaaW.PrintLast Go.Proofs.YtnlmalicpckfbaaW.PrintMore Go.Proofs.Ytnlmalicpckfbaa.PB
set_option linter.unusedSimpArgs false
set_option linter.unusedVariables false
/-! letters: read, compared, marked -/
theorem eqLetterS_l0 (a : List S79) (h : a.length ≤ 1048576) : ∀ (d : Nat) (i : Int), 0 ≤ i → i + d = a.length → Ev (fun k => laws_eqLetterS.l0 k a a i) true := by
  intro d
  induction d with
  | zero =>
    intro i h0 hi
    refine ev_step (f := fun _ => some true) (fun k => ?_) (ev_now _)
    simp only [laws_eqLetterS.l0]; rw [if_neg (by omega)]
  | succ d ih =>
    intro i h0 hi
    refine ev_step (f := fun k => laws_eqLetterS.l0 k a a (i + 1)) (fun k => ?_) (ih _ (by omega) (by omega))
    simp only [laws_eqLetterS.l0, laws_eqLetter.f, if_true, Option.bind_some]
    rw [if_pos (by omega), if_pos h0, if_pos (by omega), w64 (by omega) (by omega)]
theorem eqLetterS_ev (a : List S79) (h : a.length ≤ 1048576) : Ev (fun k => laws_eqLetterS.f k a a) true := by
  unfold laws_eqLetterS.f
  simp only [if_true]
  exact eqLetterS_l0 a h a.length 0 (by omega) (by omega)

/-! letters: marked -/
def markedL (n : Nat) (m : Int) : List S79 := (List.range n).map fun i : Nat => ⟨m + 2 * (i : Int), m + 2 * (i : Int) + 1⟩
theorem markLetterS_l0 (n : Nat) (m : Int) (hn : n ≤ 1048576) (hm : 0 ≤ m) (hm2 : m ≤ 1099511627776) : ∀ (d : Nat) (i : Int) (acc : List S79), 0 ≤ i → i + d = n → acc.length = n →
    (∀ j : Nat, (j : Int) < i → acc.getD j z79 = (markedL n m).getD j z79) → Ev (fun k => laws_markLetterS.l0 k acc (m + 2 * i) i) (m + 2 * n, markedL n m) := by
  intro d
  induction d with
  | zero =>
    intro i acc h0 hi hl hacc
    refine ev_step (f := fun _ => some (m + 2 * i, acc)) (fun k => ?_) ?_
    · simp only [laws_markLetterS.l0]; rw [if_neg (by omega)]
    · have e : acc = markedL n m := ext_getD z79 (by rw [hl]; simp [markedL]) (fun j hj => hacc j (by omega))
      rw [e, show m + 2 * i = m + 2 * n by omega]; exact ev_now _
  | succ d ih =>
    intro i acc h0 hi hl hacc
    refine ev_step (f := fun k => laws_markLetterS.l0 k (acc.set i.toNat ⟨m + 2 * i, m + 2 * i + 1⟩) (m + 2 * (i + 1)) (i + 1)) (fun k => ?_) ?_
    · have hi' : i.toNat < acc.length := by omega
      simp only [laws_markLetterS.l0, Option.bind_some, rd_T79]
      rw [if_pos (by omega), if_pos h0, w64 (by omega) (by omega), w64 (by omega) (by omega), w64 (by omega) (by omega), show m + 2 * i + 1 + 1 = m + 2 * (i + 1) by omega, List.set_set, getD_set _ _ _ _ _ hi']
      simp
    · refine ih (i + 1) _ (by omega) (by omega) (by simpa using hl) (fun j hj => ?_)
      rw [getD_set _ _ _ _ _ (by omega)]
      split
      · rename_i e
        subst e
        rw [markedL, getD_range_map _ _ _ _ (by omega), show ((i.toNat : Nat) : Int) = i by omega]
      · exact hacc j (by omega)
theorem markLetterS_ev (l : List S79) (m : Int) (hn : l.length ≤ 1048576) (hm : 0 ≤ m) (hm2 : m ≤ 1099511627776) : Ev (fun k => laws_markLetterS.f k l m) (m + 2 * (l.length : Int), markedL l.length m) := by
  unfold laws_markLetterS.f
  have := markLetterS_l0 l.length m hn hm hm2 l.length 0 l (by omega) (by omega) rfl (fun j hj => by omega)
  simpa using this

/-! letters: held -/
theorem heldLetterS_l0 (n : Nat) (m : Int) (hn : n ≤ 1048576) (hm : 0 ≤ m) (hm2 : m ≤ 1099511627776) : ∀ (d : Nat) (i : Int), 0 ≤ i → i + d = n → Ev (fun k => laws_heldLetterS.l0 k (markedL n m) (m + 2 * i) i) (m + 2 * n) := by
  intro d
  have hl : (markedL n m).length = n := by simp [markedL]
  induction d with
  | zero =>
    intro i h0 hi
    refine ev_step (f := fun _ => some (m + 2 * i)) (fun k => ?_) ?_
    · simp only [laws_heldLetterS.l0]; rw [if_neg (by omega)]
    · rw [show m + 2 * i = m + 2 * n by omega]; exact ev_now _
  | succ d ih =>
    intro i h0 hi
    refine ev_step (f := fun k => laws_heldLetterS.l0 k (markedL n m) (m + 2 * (i + 1)) (i + 1)) (fun k => ?_) (ih _ (by omega) (by omega))
    have e : rd_T79 (markedL n m) i = ⟨m + 2 * i, m + 2 * i + 1⟩ := by
      show (markedL n m).getD i.toNat z79 = _
      rw [markedL, getD_range_map _ _ _ _ (by omega), show ((i.toNat : Nat) : Int) = i by omega]
    simp only [laws_heldLetterS.l0, e, if_true]
    rw [if_pos (by omega), if_pos h0, w64 (by omega) (by omega), w64 (by omega) (by omega), w64 (by omega) (by omega), if_pos rfl, show m + 2 * i + 1 + 1 = m + 2 * (i + 1) by omega]
theorem heldLetterS_ev (n : Nat) (m : Int) (hn : n ≤ 1048576) (hm : 0 ≤ m) (hm2 : m ≤ 1099511627776) : Ev (fun k => laws_heldLetterS.f k (markedL n m) m) (m + 2 * (n : Int)) := by
  unfold laws_heldLetterS.f
  have := heldLetterS_l0 n m hn hm hm2 n 0 (by omega) (by omega)
  simpa using this

/-! news: what friends know, as numbers below 2^n -/
def orI (a b : Int) : Int := ((a.toNat ||| b.toNat : Nat) : Int)
def startP (n : Nat) : List Int := (List.range n).map fun i => ((2 ^ i : Nat) : Int)
def SmallP (n : Nat) (l : List Int) : Prop := l.length = n ∧ ∀ x ∈ l, 0 ≤ x ∧ x < ((2 ^ n : Nat) : Int)
theorem smallP_at {n : Nat} {l : List Int} (h : SmallP n l) (i : Nat) (hi : i < n) : 0 ≤ l.getD i 0 ∧ l.getD i 0 < ((2 ^ n : Nat) : Int) := by
  have hl : i < l.length := by rw [h.1]; exact hi
  rw [getD_at l i 0 hl]
  exact h.2 _ (List.getElem_mem hl)
theorem smallP_1024 {n : Nat} {l : List Int} (h : SmallP n l) (hn : n ≤ 10) (i : Nat) (hi : i < n) : 0 ≤ l.getD i 0 ∧ l.getD i 0 < 1024 := by
  have h1 := smallP_at h i hi
  have h2 : 2 ^ n ≤ 2 ^ 10 := Nat.pow_le_pow_right (by omega) hn
  omega
theorem smallP_start (n : Nat) : SmallP n (startP n) := by
  refine ⟨by simp [startP], fun x hx => ?_⟩
  obtain ⟨i, hi, rfl⟩ := List.mem_map.1 hx
  have : i < n := by simpa using hi
  have h2 : 2 ^ i < 2 ^ n := Nat.pow_lt_pow_right (by omega) this
  have h3 : 0 < 2 ^ i := Nat.two_pow_pos i
  omega
theorem orI_lt {n : Nat} {a b : Int} (ha : 0 ≤ a ∧ a < ((2 ^ n : Nat) : Int)) (hb : 0 ≤ b ∧ b < ((2 ^ n : Nat) : Int)) : 0 ≤ orI a b ∧ orI a b < ((2 ^ n : Nat) : Int) := by
  have h := Nat.or_lt_two_pow (x := a.toNat) (y := b.toNat) (n := n) (by omega) (by omega)
  unfold orI
  omega
theorem smallP_set {n : Nat} {l : List Int} (h : SmallP n l) (i : Nat) (x : Int) (hx : 0 ≤ x ∧ x < ((2 ^ n : Nat) : Int)) : SmallP n (l.set i x) := by
  refine ⟨by rw [List.length_set, h.1], fun y hy => ?_⟩
  rcases List.mem_or_eq_of_mem_set hy with h1 | h1
  · exact h.2 y h1
  · rw [h1]; exact hx
theorem or_i64 {a b : Int} (ha : 0 ≤ a ∧ a < 1024) (hb : 0 ≤ b ∧ b < 1024) : Go.bits .or .i64 a b = orI a b := by
  have h := (bits_nat .i64 10 (by decide) (fun n h0 h1 => by rw [IntKind.wrap_i64]; omega) a.toNat b.toNat (by omega) (by omega)).2
  rw [show ((a.toNat : Nat) : Int) = a by omega, show ((b.toNat : Nat) : Int) = b by omega] at h
  exact h
theorem or_u16 {a b : Int} (ha : 0 ≤ a ∧ a < 1024) (hb : 0 ≤ b ∧ b < 1024) : Go.bits .or .u16 a b = orI a b := by
  have h := (bits_nat .u16 10 (by decide) (fun n h0 h1 => by simp [IntKind.wrap, IntKind.bits, IntKind.signed]; omega) a.toNat b.toNat (by omega) (by omega)).2
  rw [show ((a.toNat : Nat) : Int) = a by omega, show ((b.toNat : Nat) : Int) = b by omega] at h
  exact h
theorem shl_i64_all : ∀ i : Fin 11, shl .i64 1 (i.val : Int) = ((2 ^ i.val : Nat) : Int) := by decide +kernel
theorem shl_u16_all : ∀ i : Fin 11, shl .u16 1 (i.val : Int) = ((2 ^ i.val : Nat) : Int) := by decide +kernel
theorem shl_i64_at (i : Int) (h0 : 0 ≤ i) (h1 : i ≤ 10) : shl .i64 1 i = ((2 ^ i.toNat : Nat) : Int) := by
  have := shl_i64_all ⟨i.toNat, by omega⟩
  simp only [Int.toNat_of_nonneg h0] at this
  exact this
theorem shl_u16_at (i : Int) (h0 : 0 ≤ i) (h1 : i ≤ 10) : shl .u16 1 i = ((2 ^ i.toNat : Nat) : Int) := by
  have := shl_u16_all ⟨i.toNat, by omega⟩
  simp only [Int.toNat_of_nonneg h0] at this
  exact this
theorem startP_take (n i : Nat) (h : i < n) : (startP n).take (i + 1) = (startP n).take i ++ [((2 ^ i : Nat) : Int)] := by
  rw [take_at (startP n) i 0 (by simpa [startP] using h), startP, getD_range_map _ _ _ _ h]
theorem caStart_l0 (n : Nat) (hn : n ≤ 10) : ∀ (d : Nat) (i : Int), 0 ≤ i → i + d = n → Ev (fun k => spec_caStart.l0 k (n : Int) ((startP n).take i.toNat) i) (startP n) := by
  intro d
  have hl : (startP n).length = n := by simp [startP]
  induction d with
  | zero =>
    intro i h0 hi
    refine ev_step (f := fun _ => some ((startP n).take i.toNat)) (fun k => ?_) ?_
    · simp only [spec_caStart.l0]; rw [if_neg (by omega)]
    · rw [List.take_of_length_le (by omega)]; exact ev_now _
  | succ d ih =>
    intro i h0 hi
    refine ev_step (f := fun k => spec_caStart.l0 k (n : Int) ((startP n).take (i + 1).toNat) (i + 1)) (fun k => ?_) (ih _ (by omega) (by omega))
    simp only [spec_caStart.l0]
    rw [if_pos (by omega), if_pos h0, if_pos (by rw [List.length_take]; omega), w64 (by omega) (by omega), shl_i64_at i h0 (by omega), ← startP_take n i.toNat (by omega), show (i + 1).toNat = i.toNat + 1 by omega]
theorem caStart_ev (n : Int) (h1 : 1 ≤ n) (h2 : n ≤ 10) : Ev (fun k => spec_caStart.f k n) (startP n.toNat) := by
  have := caStart_l0 n.toNat (by omega) n.toNat 0 (by omega) (by omega)
  unfold spec_caStart.f
  simpa [show ((n.toNat : Nat) : Int) = n by omega] using this
theorem first_l0 (n : Nat) (hn : n ≤ 10) : ∀ (d : Nat) (i : Int), 0 ≤ i → i + d = n → Ev (fun k => impl_first.l0 k ((startP n).take i.toNat) (n : Int) i) (startP n) := by
  intro d
  have hl : (startP n).length = n := by simp [startP]
  induction d with
  | zero =>
    intro i h0 hi
    refine ev_step (f := fun _ => some ((startP n).take i.toNat)) (fun k => ?_) ?_
    · simp only [impl_first.l0]; rw [if_neg (by omega)]
    · rw [List.take_of_length_le (by omega)]; exact ev_now _
  | succ d ih =>
    intro i h0 hi
    refine ev_step (f := fun k => impl_first.l0 k ((startP n).take (i + 1).toNat) (n : Int) (i + 1)) (fun k => ?_) (ih _ (by omega) (by omega))
    simp only [impl_first.l0]
    rw [if_pos (by omega), if_pos h0, if_pos (by rw [List.length_take]; omega), w64 (by omega) (by omega), shl_u16_at i h0 (by omega), ← startP_take n i.toNat (by omega), show (i + 1).toNat = i.toNat + 1 by omega]
theorem first_ev (n : Int) (h1 : 1 ≤ n) (h2 : n ≤ 10) : Ev (fun k => impl_first.f k n) (startP n.toNat) := by
  have := first_l0 n.toNat (by omega) n.toNat 0 (by omega) (by omega)
  unfold impl_first.f
  simpa [show ((n.toNat : Nat) : Int) = n by omega] using this

/-! all know -/
theorem pop_all : ∀ n : Fin 11, ∀ x : Fin 1024, x.val < 2 ^ n.val → (Go.Proofs.Ytnlmalicpckfbaa.H.pop16 x.val ≤ n.val ∧ (Go.Proofs.Ytnlmalicpckfbaa.H.pop16 x.val = n.val ↔ x.val = 2 ^ n.val - 1)) := by decide +kernel
def popI (x : Int) : Nat := Go.Proofs.Ytnlmalicpckfbaa.H.pop16 x.toNat
theorem popI_le {n : Nat} (hn : n ≤ 10) {x : Int} (hx : 0 ≤ x ∧ x < ((2 ^ n : Nat) : Int)) : popI x ≤ n ∧ (popI x = n ↔ x = ((2 ^ n - 1 : Nat) : Int)) := by
  have h2 : 2 ^ n ≤ 2 ^ 10 := Nat.pow_le_pow_right (by omega) hn
  have h := pop_all ⟨n, by omega⟩ ⟨x.toNat, by omega⟩ (by show x.toNat < 2 ^ n; omega)
  have h' : Go.Proofs.Ytnlmalicpckfbaa.H.pop16 x.toNat ≤ n ∧ (Go.Proofs.Ytnlmalicpckfbaa.H.pop16 x.toNat = n ↔ x.toNat = 2 ^ n - 1) := h
  refine ⟨h'.1, h'.2.trans ⟨fun e => by omega, fun e => by omega⟩⟩
def sumP (l : List Int) : Nat := (l.map popI).sum
theorem sumP_le (n : Nat) : ∀ (l : List Int), (∀ x ∈ l, popI x ≤ n) → sumP l ≤ n * l.length ∧ (sumP l = n * l.length ↔ ∀ x ∈ l, popI x = n)
  | [], _ => by simp [sumP]
  | x :: l, h => by
    have ih := sumP_le n l (fun y hy => h y (List.mem_cons_of_mem _ hy))
    have hx := h x (List.mem_cons_self)
    have e : sumP (x :: l) = popI x + sumP l := by simp [sumP]
    rw [e, List.length_cons, Nat.mul_succ]
    refine ⟨by omega, ⟨fun hh => ?_, fun hh => ?_⟩⟩
    · intro y hy
      rcases List.mem_cons.1 hy with rfl | hy
      · omega
      · exact (ih.2.1 (by omega)) y hy
    · have h1 := hh x (List.mem_cons_self)
      have h2 := ih.2.2 (fun y hy => hh y (List.mem_cons_of_mem _ hy))
      omega
def allP (n : Nat) (l : List Int) : Bool := l.all fun x => x == ((2 ^ n - 1 : Nat) : Int)
theorem allP_sum {n : Nat} (hn : n ≤ 10) {l : List Int} (h : SmallP n l) : (((sumP l : Nat) : Int) == (n : Int) * (n : Int)) = allP n l := by
  have hp := fun x hx => popI_le hn (h.2 x hx)
  have hs := sumP_le n l (fun x hx => (hp x hx).1)
  rw [h.1] at hs
  rw [Bool.eq_iff_iff, beq_iff_eq, allP, List.all_eq_true]
  constructor
  · intro e x hx
    rw [beq_iff_eq]
    exact (hp x hx).2.1 (hs.2.1 (by exact_mod_cast e) x hx)
  · intro e
    have := hs.2.2 (fun x hx => (hp x hx).2.2 (by simpa using e x hx))
    exact_mod_cast this
theorem onesCount_f {x : Int} (hx : 0 ≤ x ∧ x < 1024) : bits_OnesCount16.f x = some ((popI x : Nat) : Int) := by
  unfold bits_OnesCount16.f
  rw [if_pos hx.1, if_pos (by omega)]
  rfl
theorem popI_le16 (x : Int) : popI x ≤ 16 := by
  have := List.countP_le_length (p := fun i => x.toNat.testBit i) (l := List.range 16)
  simpa [popI, Go.Proofs.Ytnlmalicpckfbaa.H.pop16] using this
theorem sumP_le16 (l : List Int) : sumP l ≤ 16 * l.length := (sumP_le 16 l (fun x _ => popI_le16 x)).1
theorem count_l0 {n : Nat} (hn : n ≤ 10) {l : List Int} (h : SmallP n l) : ∀ (d : Nat) (i : Int) (a : Nat), 0 ≤ i → i + d = l.length → a ≤ 16 * i.toNat → Ev (fun k => impl_news_count.l0 k (a : Int) l (l.length : Int) i) ((a + sumP (l.drop i.toNat) : Nat) : Int) := by
  intro d
  have hl := h.1
  induction d with
  | zero =>
    intro i a h0 hi ha
    refine ev_step (f := fun _ => some (a : Int)) (fun k => ?_) ?_
    · simp only [impl_news_count.l0]; rw [if_neg (by omega)]
    · rw [List.drop_eq_nil_of_le (by omega)]; exact ev_now _
  | succ d ih =>
    intro i a h0 hi ha
    have hd := drop_at l i.toNat 0 (by omega)
    have hp := popI_le16 (l.getD i.toNat 0)
    refine ev_step (f := fun k => impl_news_count.l0 k ((a + popI (l.getD i.toNat 0) : Nat) : Int) l (l.length : Int) (i + 1)) (fun k => ?_) ?_
    · simp only [impl_news_count.l0]
      rw [if_pos (by omega), if_pos h0, if_pos (by omega), onesCount_f (show 0 ≤ rd l i ∧ rd l i < 1024 from smallP_1024 h hn i.toNat (by omega))]
      simp only [Option.bind_some]
      rw [w64 (x := i + 1) (by omega) (by omega), show rd l i = l.getD i.toNat 0 from rfl, w64 (by omega) (by omega)]
      rfl
    · have := ih (i + 1) (a + popI (l.getD i.toNat 0)) (by omega) (by omega) (by omega)
      rw [show (i + 1).toNat = i.toNat + 1 by omega] at this
      rw [hd]
      have e : sumP (l.getD i.toNat 0 :: l.drop (i.toNat + 1)) = popI (l.getD i.toNat 0) + sumP (l.drop (i.toNat + 1)) := by simp [sumP]
      rw [e, ← Nat.add_assoc]
      exact this
theorem count_ev {n : Nat} (hn : n ≤ 10) {l : List Int} (h : SmallP n l) : Ev (fun k => impl_news_count.f k l) ((sumP l : Nat) : Int) := by
  have hl := h.1
  have := count_l0 hn h l.length 0 0 (by omega) (by omega) (by omega)
  unfold impl_news_count.f
  simpa using this

theorem allKnow_ev {n : Nat} (hn : n ≤ 10) {l : List Int} (h : SmallP n l) : Ev (fun k => impl_news_allKnow.f k l) (allP n l) := by
  have hl := h.1
  unfold impl_news_allKnow.f
  refine Ev.bind (count_ev hn h) ?_
  have e : (l.length : Int) * (l.length : Int) = (n : Int) * (n : Int) := by rw [hl]
  have hb : (n : Int) * (n : Int) ≤ 10 * 10 := Int.mul_le_mul (by omega) (by omega) (by omega) (by omega)
  have hb0 : 0 ≤ (n : Int) * (n : Int) := Int.mul_nonneg (by omega) (by omega)
  rw [e, w64 (by omega) (by omega), allP_sum hn h]
  exact ev_now _
theorem caAll_l0 {n : Nat} (hn : n ≤ 10) {l : List Int} (h : SmallP n l) : ∀ (d : Nat) (i : Int), 0 ≤ i → i + d = l.length → Ev (fun k => spec_caAll.l0 k l l (l.length : Int) i) (allP n (l.drop i.toNat)) := by
  intro d
  have hl := h.1
  have hw : wrap64 ((shl .i64 1 (l.length : Int)) - 1) = ((2 ^ n - 1 : Nat) : Int) := by
    have h2 : 2 ^ n ≤ 2 ^ 10 := Nat.pow_le_pow_right (by omega) hn
    have h3 : 0 < 2 ^ n := Nat.two_pow_pos n
    rw [shl_i64_at _ (by omega) (by omega), hl, show ((n : Int)).toNat = n by omega, w64 (by omega) (by omega)]
    omega
  induction d with
  | zero =>
    intro i h0 hi
    refine ev_step (f := fun _ => some true) (fun k => ?_) ?_
    · simp only [spec_caAll.l0]; rw [if_neg (by omega)]
    · rw [List.drop_eq_nil_of_le (by omega)]; exact ev_now _
  | succ d ih =>
    intro i h0 hi
    have hd := drop_at l i.toNat 0 (by omega)
    have ea : allP n (l.drop i.toNat) = ((l.getD i.toNat 0 == ((2 ^ n - 1 : Nat) : Int)) && allP n (l.drop (i.toNat + 1))) := by rw [hd]; rfl
    rw [ea]
    by_cases hq : l.getD i.toNat 0 = ((2 ^ n - 1 : Nat) : Int)
    · refine ev_step (f := fun k => spec_caAll.l0 k l l (l.length : Int) (i + 1)) (fun k => ?_) ?_
      · simp only [spec_caAll.l0, hw, show rd l i = l.getD i.toNat 0 from rfl]
        rw [if_pos (by omega), if_pos h0, if_pos (by omega), if_pos hq, w64 (by omega) (by omega)]
      · have := ih (i + 1) (by omega) (by omega)
        rw [show (i + 1).toNat = i.toNat + 1 by omega] at this
        rw [beq_iff_eq.2 hq, Bool.true_and]
        exact this
    · refine ev_step (f := fun _ => some false) (fun k => ?_) ?_
      · simp only [spec_caAll.l0, hw, show rd l i = l.getD i.toNat 0 from rfl]
        rw [if_pos (by omega), if_pos h0, if_pos (by omega), if_neg hq]
      · rw [beq_eq_false_iff_ne.2 hq, Bool.false_and]; exact ev_now _
theorem caAll_ev {n : Nat} (hn : n ≤ 10) {l : List Int} (h : SmallP n l) : Ev (fun k => spec_caAll.f k l) (allP n l) := by
  have hl := h.1
  have := caAll_l0 hn h l.length 0 (by omega) (by omega)
  unfold spec_caAll.f
  simpa using this

/-! the first of a list -/
theorem none_of {α : Type} {o : Option α} (h : ∀ p, o ≠ some p) : o = none := by cases o with
  | none => rfl
  | some p => exact absurd rfl (h p)
theorem findSome_congr {α β : Type} {f g : α → Option β} : ∀ (l : List α), (∀ a ∈ l, f a = g a) → l.findSome? f = l.findSome? g
  | [], _ => rfl
  | a :: l, h => by
    rw [List.findSome?_cons, List.findSome?_cons, h a (List.mem_cons_self), findSome_congr l (fun b hb => h b (List.mem_cons_of_mem _ hb))]

/-! the letters' search -/
def arrowsP (n : Nat) : List S79 := (List.range n).flatMap fun a : Nat => (List.range n).map fun b : Nat => ⟨(a : Int), (b : Int)⟩
def missP (n : Nat) (l : List Int) : Nat := l.countP fun x => x != ((2 ^ n - 1 : Nat) : Int)
def toldL (l : List Int) (c : S79) : List Int := l.set c.f1.toNat (orI (l.getD c.f1.toNat 0) (l.getD c.f0.toNat 0))
def idleL (l : List Int) (c : S79) : Bool := orI (l.getD c.f1.toNat 0) (l.getD c.f0.toNat 0) == l.getD c.f1.toNat 0
def lettI (n : Nat) : Nat → List Int → Option (List S79)
  | 0, l => if allP n l = true then some [] else none
  | m + 1, l => (arrowsP n).findSome? fun c => if idleL l c = true then none else (lettI n m (toldL l c)).map (c :: ·)
def lettS (n : Nat) : Nat → List Int → Option (List S79)
  | 0, l => if allP n l = true then some [] else none
  | m + 1, l => if missP n l > m + 1 then none else (arrowsP n).findSome? fun c => if idleL l c = true then none else (lettS n m (toldL l c)).map (c :: ·)
theorem missP_set (n : Nat) : ∀ (l : List Int) (i : Nat) (x : Int), missP n l ≤ missP n (l.set i x) + 1 := by
  intro l
  induction l with
  | nil => intro i x; simp [missP]
  | cons y l ih =>
    intro i x
    cases i with
    | zero => simp only [missP, List.set_cons_zero, List.countP_cons]; split <;> split <;> omega
    | succ i => have := ih i x; simp only [missP, List.set_cons_succ, List.countP_cons] at this ⊢; omega
theorem missP_all (n : Nat) (l : List Int) : allP n l = true → missP n l = 0 := by
  intro h
  rw [missP, List.countP_eq_zero]
  intro x hx
  have := List.all_eq_true.1 h x hx
  simpa using this
theorem lettI_miss (n : Nat) : ∀ (m : Nat) (l : List Int) (p : List S79), lettI n m l = some p → missP n l ≤ m
  | 0, l, p, h => by
    rw [lettI] at h
    by_cases ha : allP n l = true
    · have := missP_all n l ha; omega
    · rw [if_neg ha] at h; cases h
  | m + 1, l, p, h => by
    rw [lettI] at h
    obtain ⟨c, hc, h2⟩ := List.exists_of_findSome?_eq_some h
    split at h2
    · cases h2
    · obtain ⟨q, hq, _⟩ := Option.map_eq_some_iff.1 h2
      have h1 := lettI_miss n m _ q hq
      have h3 := missP_set n l c.f1.toNat (orI (l.getD c.f1.toNat 0) (l.getD c.f0.toNat 0))
      unfold toldL at h1
      omega
theorem lett_eq (n : Nat) : ∀ (m : Nat) (l : List Int), lettI n m l = lettS n m l
  | 0, l => rfl
  | m + 1, l => by
    rw [lettS]
    by_cases hmiss : missP n l > m + 1
    · rw [if_pos hmiss]
      exact none_of fun p hp => by have := lettI_miss n _ _ p hp; omega
    · rw [if_neg hmiss, lettI]
      congr 1
      funext c
      rw [lett_eq n m]
def followsL (n : Nat) : List S79 → List Int → Bool
  | [], l => allP n l
  | c :: p, l => (arrowsP n).any (fun d => d.f0 == c.f0 && d.f1 == c.f1) && (!idleL l c && followsL n p (toldL l c))
theorem followsL_lett (n : Nat) : ∀ (p : List S79) (l : List Int), followsL n p l = true → (lettI n p.length l).isSome = true
  | [], l, h => by rw [followsL] at h; rw [List.length_nil, lettI, if_pos h]; rfl
  | c :: p, l, h => by
    rw [followsL, Bool.and_eq_true, Bool.and_eq_true] at h
    obtain ⟨h1, h2, h3⟩ := h
    obtain ⟨d, hd, he⟩ := List.any_eq_true.1 h1
    have e : d = c := by
      rw [Bool.and_eq_true, beq_iff_eq, beq_iff_eq] at he
      cases d; cases c; simp at he; simp [he]
    subst e
    rw [List.length_cons, lettI, List.findSome?_isSome_iff]
    refine ⟨d, hd, ?_⟩
    rw [if_neg (by simpa using h2), Option.isSome_map]
    exact followsL_lett n p _ h3

/-! the searches for letters, run -/
instance : DecidableEq S79 := fun a b => if h : a.f0 = b.f0 ∧ a.f1 = b.f1 then isTrue (by cases a; cases b; simp at h; simp [h]) else isFalse (fun e => h ⟨by rw [e], by rw [e]⟩)
theorem clone16 (l : List Int) (h : l.length ≤ 100) : impl_news_uint16.f l = some l := by
  unfold impl_news_uint16.f
  simp only [Option.bind_some, List.nil_append, List.length_nil]
  rw [if_pos (by omega)]
theorem cloneL (l : List S79) (h : l.length ≤ 100) : impl_Letter.f l = some l := by
  unfold impl_Letter.f
  simp only [Option.bind_some, List.nil_append, List.length_nil]
  rw [if_pos (by omega)]
theorem own_f (l : List Int) (h : l.length ≤ 100) : spec_l1Own.f l = some l := by
  unfold spec_l1Own.f
  simp only [Option.bind_some, List.nil_append, List.length_nil]
  rw [if_pos (by omega)]
theorem idle_all : ∀ a : Fin 16, ∀ b : Fin 16, decide (Go.bits .andNot .u16 (a.val : Int) (b.val : Int) = 0) = (orI (b.val : Int) (a.val : Int) == (b.val : Int)) := by decide +kernel
theorem idle_at {n : Nat} (hn : n ≤ 4) {l : List Int} (hs : SmallP n l) (a b : Nat) (ha : a < n) (hb : b < n) : (Go.bits .andNot .u16 (l.getD a 0) (l.getD b 0) = 0) ↔ idleL l ⟨(a : Int), (b : Int)⟩ = true := by
  have h1 := smallP_at hs a ha
  have h2 := smallP_at hs b hb
  have h3 : 2 ^ n ≤ 2 ^ 4 := Nat.pow_le_pow_right (by omega) hn
  have h4 := idle_all ⟨(l.getD a 0).toNat, by omega⟩ ⟨(l.getD b 0).toNat, by omega⟩
  simp only [show (((l.getD a 0).toNat : Nat) : Int) = l.getD a 0 by omega, show (((l.getD b 0).toNat : Nat) : Int) = l.getD b 0 by omega] at h4
  show _ ↔ (orI (l.getD b 0) (l.getD a 0) == l.getD b 0) = true
  rw [← h4, decide_eq_true_iff]
theorem idle_same {l : List Int} (hp : ∀ x ∈ l, 0 ≤ x) (a : Nat) (ha : a < l.length) : idleL l ⟨(a : Int), (a : Int)⟩ = true := by
  have hx : 0 ≤ l.getD a 0 := by rw [getD_at _ _ _ ha]; exact hp _ (List.getElem_mem ha)
  show (orI (l.getD a 0) (l.getD a 0) == l.getD a 0) = true
  rw [orI, Nat.or_self, beq_iff_eq]
  omega
theorem smallP_told {n : Nat} {l : List Int} (h : SmallP n l) (a b : Nat) (ha : a < n) (hb : b < n) : SmallP n (toldL l ⟨(a : Int), (b : Int)⟩) := smallP_set h _ _ (orI_lt (smallP_at h b hb) (smallP_at h a ha))
def arB (a : Nat) : Nat → Nat → List S79
  | 0, _ => []
  | d + 1, b => ⟨(a : Int), (b : Int)⟩ :: arB a d (b + 1)
def arA (n : Nat) : Nat → Nat → List S79
  | 0, _ => []
  | d + 1, a => arB a n 0 ++ arA n d (a + 1)
theorem arrows_pr : ∀ n : Fin 5, arA n.val n.val 0 = arrowsP n.val := by decide +kernel
def stepL (f : List Int → Option (List S79)) (l : List Int) (c : S79) : Option (List S79) := if idleL l c = true then none else (f (toldL l c)).map (c :: ·)
def outI (list : List S79) (o : Option (List S79)) : List S79 × Bool := match o with
  | some p => (list ++ p, true)
  | none => ([], false)
def resI (n m : Nat) (list : List S79) (l : List Int) : List S79 × Bool := match lettI n m l with
  | some p => (list ++ p, true)
  | none => (if m = 0 then list else [], false)
theorem lit_l1 (n : Nat) (hn : n ≤ 4) (m : Nat) (l : List Int) (hs : SmallP n l) (list : List S79) (hl : list.length + (m + 1) = 2 * (n - 1)) (a : Nat) (ha : a < n) (rest : List S79)
    (ih : ∀ (l' : List Int) (list' : List S79), SmallP n l' → list'.length + m = 2 * (n - 1) → Ev (fun k => impl_FirstLettersLit1.f k list' l' (n : Int) 0) (resI n m list' l'))
    (hr : Ev (fun k => impl_FirstLettersLit1.l0 k list l (n : Int) 0 (n : Int) ((a + 1 : Nat) : Int)) (outI list (rest.findSome? (stepL (lettI n m) l)))) :
    ∀ (d b : Nat), b + d = n → Ev (fun k => impl_FirstLettersLit1.l1 k list l (n : Int) 0 (a : Int) (n : Int) (a : Int) (n : Int) (b : Int)) (outI list ((arB a d b ++ rest).findSome? (stepL (lettI n m) l))) := by
  have hlen := hs.1
  have ea := w64 (show -9223372036854775808 ≤ (a : Int) + 1 by omega) (by omega)
  intro d
  induction d with
  | zero =>
    intro b hb
    have hb' : ¬ (b : Int) < (n : Int) := by omega
    exact Ev.step (fun k => by simp only [impl_FirstLettersLit1.l1, if_neg hb', ea] <;> exact rfl) hr
  | succ d ihd =>
    intro b hb
    have q1 : (b : Int) < (n : Int) := by omega
    have q2 : (0 : Int) ≤ (a : Int) := by omega
    have q3 : (a : Int) < (l.length : Int) := by omega
    have q4 : (0 : Int) ≤ (b : Int) := by omega
    have q5 : (b : Int) < (l.length : Int) := by omega
    have eb := w64 (show -9223372036854775808 ≤ (b : Int) + 1 by omega) (by omega)
    have hn1 := ihd (b + 1) (by omega)
    have hidle := idle_at hn hs a b ha (by omega)
    rw [arB, List.cons_append, List.findSome?_cons]
    by_cases hq : idleL l ⟨(a : Int), (b : Int)⟩ = true
    · have hq' : Go.bits .andNot .u16 (rd l (a : Int)) (rd l (b : Int)) = 0 := hidle.2 hq
      rw [stepL, if_pos hq]
      exact Ev.step (fun k => by simp only [impl_FirstLettersLit1.l1, if_pos q1, if_pos q2, if_pos q3, if_pos q4, if_pos q5, if_pos hq', eb] <;> exact rfl) hn1
    · have hq' : ¬ Go.bits .andNot .u16 (rd l (a : Int)) (rd l (b : Int)) = 0 := fun h => hq (hidle.1 h)
      have hor : Go.bits .or .u16 (rd l (b : Int)) (rd l (a : Int)) = orI (l.getD b 0) (l.getD a 0) := or_u16 (show 0 ≤ rd l (b : Int) ∧ rd l (b : Int) < 1024 from smallP_1024 hs (by omega) b (by omega)) (show 0 ≤ rd l (a : Int) ∧ rd l (a : Int) < 1024 from smallP_1024 hs (by omega) a (by omega))
      have p1 : list.length + ([(⟨(a : Int), (b : Int)⟩ : S79)] : List S79).length < 8796093022208 := by simp; omega
      have hih := ih (toldL l ⟨(a : Int), (b : Int)⟩) (list ++ [⟨(a : Int), (b : Int)⟩]) (smallP_told hs a b ha (by omega)) (by simp; omega)
      rw [stepL, if_neg hq]
      refine Ev.step (fun k => by simp only [impl_FirstLettersLit1.l1, if_pos q1, if_pos q2, if_pos q3, if_pos q4, if_pos q5, if_neg hq', clone16 l (by omega), cloneL list (by omega), Option.bind_some, if_pos p1, hor, eb] <;> exact rfl) ?_
      refine Ev.bind hih ?_
      unfold resI
      cases hp : lettI n m (toldL l ⟨(a : Int), (b : Int)⟩) with
      | some p =>
        simp only [if_true, Option.map_some]
        have e : outI list (some ((⟨(a : Int), (b : Int)⟩ : S79) :: p)) = (list ++ [⟨(a : Int), (b : Int)⟩] ++ p, true) := by simp [outI]
        rw [e]
        exact ev_now _
      | none =>
        simp only [Bool.false_eq_true, if_false, Option.map_none]
        exact hn1
theorem lit_l0 (n : Nat) (hn : n ≤ 4) (m : Nat) (l : List Int) (hs : SmallP n l) (list : List S79) (hl : list.length + (m + 1) = 2 * (n - 1))
    (ih : ∀ (l' : List Int) (list' : List S79), SmallP n l' → list'.length + m = 2 * (n - 1) → Ev (fun k => impl_FirstLettersLit1.f k list' l' (n : Int) 0) (resI n m list' l')) :
    ∀ (d a : Nat), a + d = n → Ev (fun k => impl_FirstLettersLit1.l0 k list l (n : Int) 0 (n : Int) (a : Int)) (outI list ((arA n d a).findSome? (stepL (lettI n m) l))) := by
  intro d
  induction d with
  | zero =>
    intro a ha
    have ha' : ¬ (a : Int) < (n : Int) := by omega
    exact Ev.step (fun k => by simp only [impl_FirstLettersLit1.l0, if_neg ha'] <;> exact rfl) (ev_now _)
  | succ d ihd =>
    intro a ha
    have ha' : (a : Int) < (n : Int) := by omega
    refine Ev.step (fun k => by simp only [impl_FirstLettersLit1.l0, if_pos ha'] <;> exact rfl) ?_
    exact lit_l1 n hn m l hs list hl a (by omega) (arA n d (a + 1)) ih (ihd (a + 1) (by omega)) n 0 (by omega)
theorem lit_ev (n : Nat) (hn : n ≤ 4) (h1n : 1 ≤ n) : ∀ (m : Nat) (l : List Int) (list : List S79), SmallP n l → list.length + m = 2 * (n - 1) → Ev (fun k => impl_FirstLettersLit1.f k list l (n : Int) 0) (resI n m list l) := by
  have e2 : wrap64 (2 * wrap64 ((n : Int) - 1)) = ((2 * (n - 1) : Nat) : Int) := by rw [w64 (x := (n : Int) - 1) (by omega) (by omega), w64 (by omega) (by omega)]; omega
  intro m
  induction m with
  | zero =>
    intro l list hs hl
    have q : (list.length : Int) = ((2 * (n - 1) : Nat) : Int) := by omega
    refine Ev.step (fun k => by simp only [impl_FirstLettersLit1.f, e2, if_pos q] <;> exact rfl) ?_
    refine Ev.bind (allKnow_ev (by omega : n ≤ 10) hs) ?_
    unfold resI lettI
    cases allP n l with
    | true => simpa using ev_now _
    | false => simpa using ev_now _
  | succ m ih =>
    intro l list hs hl
    have q : ¬ (list.length : Int) = ((2 * (n - 1) : Nat) : Int) := by omega
    refine Ev.step (fun k => by simp only [impl_FirstLettersLit1.f, e2, if_neg q] <;> exact rfl) ?_
    have := lit_l0 n hn m l hs list hl ih n 0 (by omega)
    have e : resI n (m + 1) list l = outI list ((arA n n 0).findSome? (stepL (lettI n m) l)) := by
      unfold resI
      rw [lettI, arrows_pr ⟨n, by omega⟩]
      have : (arrowsP n).findSome? (fun c => if idleL l c = true then none else (lettI n m (toldL l c)).map (c :: ·)) = (arrowsP n).findSome? (stepL (lettI n m) l) := rfl
      rw [this]
      cases (arrowsP n).findSome? (stepL (lettI n m) l) with
      | some p => rfl
      | none => rfl
    rw [e]
    exact this
def toS (o : Option (List S79)) : List S79 × Bool := match o with
  | some p => (p, true)
  | none => ([], false)
theorem lettS_len (n : Nat) : ∀ (m : Nat) (l : List Int) (p : List S79), lettS n m l = some p → p.length = m
  | 0, l, p, h => by
    rw [lettS] at h
    split at h
    · injection h with h; rw [← h]; rfl
    · cases h
  | m + 1, l, p, h => by
    rw [lettS] at h
    split at h
    · cases h
    · obtain ⟨c, _, h2⟩ := List.exists_of_findSome?_eq_some h
      split at h2
      · cases h2
      · obtain ⟨q, hq, rfl⟩ := Option.map_eq_some_iff.1 h2
        rw [List.length_cons, lettS_len n m _ q hq]
theorem search_l2 (n : Nat) (hn : n ≤ 4) (m : Nat) (hm : m ≤ 50) (l : List Int) (hs : SmallP n l) (a : Nat) (ha : a < n) (rest : List S79)
    (ih : ∀ l' : List Int, SmallP n l' → Ev (fun k => spec_leSearch.f k l' (m : Int)) (toS (lettS n m l')))
    (hr : Ev (fun k => spec_leSearch.l1 k l ((m + 1 : Nat) : Int) (n : Int) ((a + 1 : Nat) : Int)) (toS (rest.findSome? (stepL (lettS n m) l)))) :
    ∀ (d b : Nat), b + d = n → Ev (fun k => spec_leSearch.l2 k l ((m + 1 : Nat) : Int) (a : Int) (n : Int) (a : Int) (n : Int) (b : Int)) (toS ((arB a d b ++ rest).findSome? (stepL (lettS n m) l))) := by
  have hlen := hs.1
  have ea := w64 (show -9223372036854775808 ≤ (a : Int) + 1 by omega) (by omega)
  have em : wrap64 (((m + 1 : Nat) : Int) - 1) = (m : Int) := by rw [w64 (by omega) (by omega)]; omega
  intro d
  induction d with
  | zero =>
    intro b hb
    have hb' : ¬ (b : Int) < (n : Int) := by omega
    exact Ev.step (fun k => by simp only [spec_leSearch.l2, if_neg hb', ea] <;> exact rfl) hr
  | succ d ihd =>
    intro b hb
    have q1 : (b : Int) < (n : Int) := by omega
    have q2 : (0 : Int) ≤ (a : Int) := by omega
    have q3 : (a : Int) < (l.length : Int) := by omega
    have q4 : (0 : Int) ≤ (b : Int) := by omega
    have q5 : (b : Int) < (l.length : Int) := by omega
    have eb := w64 (show -9223372036854775808 ≤ (b : Int) + 1 by omega) (by omega)
    have hn1 := ihd (b + 1) (by omega)
    have hor : Go.bits .or .i64 (rd l (b : Int)) (rd l (a : Int)) = orI (l.getD b 0) (l.getD a 0) := or_i64 (show 0 ≤ rd l (b : Int) ∧ rd l (b : Int) < 1024 from smallP_1024 hs (by omega) b (by omega)) (show 0 ≤ rd l (a : Int) ∧ rd l (a : Int) < 1024 from smallP_1024 hs (by omega) a (by omega))
    have hbe : (orI (l.getD b 0) (l.getD a 0) == rd l (b : Int)) = idleL l ⟨(a : Int), (b : Int)⟩ := rfl
    rw [arB, List.cons_append, List.findSome?_cons]
    by_cases hab : a = b
    · subst hab
      have hq := idle_same (fun x hx => (hs.2 x hx).1) a (by omega)
      rw [stepL, if_pos hq]
      refine Ev.step (fun k => by simp only [spec_leSearch.l2, if_pos q1, if_true] <;> exact rfl) ?_
      exact Ev.step (fun k => by simp only [spec_leSearch.j3, if_true, eb] <;> exact rfl) hn1
    · have hab' : ¬ (a : Int) = (b : Int) := by omega
      refine Ev.step (fun k => by simp only [spec_leSearch.l2, if_pos q1, if_neg hab', if_pos q2, if_pos q3, if_pos q4, if_pos q5, hor, hbe] <;> exact rfl) ?_
      by_cases hq : idleL l ⟨(a : Int), (b : Int)⟩ = true
      · rw [stepL, if_pos hq, hq]
        exact Ev.step (fun k => by simp only [spec_leSearch.j3, if_true, eb] <;> exact rfl) hn1
      · rw [stepL, if_neg hq]
        have hqf : idleL l ⟨(a : Int), (b : Int)⟩ = false := by simpa using hq
        rw [hqf]
        have hih := ih _ (smallP_told hs a b ha (by omega))
        refine Ev.step (fun k => by simp only [spec_leSearch.j3, Bool.false_eq_true, if_false, own_f l (by omega), Option.bind_some, if_pos q2, if_pos q3, if_pos q4, if_pos q5, hor, em, eb] <;> exact rfl) ?_
        refine Ev.bind hih ?_
        cases hp : lettS n m (toldL l ⟨(a : Int), (b : Int)⟩) with
        | some p =>
          have hpl := lettS_len n m _ p hp
          have q : ([(⟨(a : Int), (b : Int)⟩ : S79)] : List S79).length + p.length < 8796093022208 := by simp; omega
          rw [show toS (some p) = (p, true) from rfl]
          simp only [Option.map_some, if_true, Option.bind_some, if_pos q]
          exact ev_now _
        | none =>
          rw [show toS none = ([], false) from rfl]
          simp only [Option.map_none, Bool.false_eq_true, if_false]
          exact hn1
theorem search_l1 (n : Nat) (hn : n ≤ 4) (m : Nat) (hm : m ≤ 50) (l : List Int) (hs : SmallP n l)
    (ih : ∀ l' : List Int, SmallP n l' → Ev (fun k => spec_leSearch.f k l' (m : Int)) (toS (lettS n m l'))) :
    ∀ (d a : Nat), a + d = n → Ev (fun k => spec_leSearch.l1 k l ((m + 1 : Nat) : Int) (n : Int) (a : Int)) (toS ((arA n d a).findSome? (stepL (lettS n m) l))) := by
  have hlen : (l.length : Int) = (n : Int) := by rw [hs.1]
  intro d
  induction d with
  | zero =>
    intro a ha
    have ha' : ¬ (a : Int) < (n : Int) := by omega
    exact Ev.step (fun k => by simp only [spec_leSearch.l1, if_neg ha'] <;> exact rfl) (ev_now _)
  | succ d ihd =>
    intro a ha
    have ha' : (a : Int) < (n : Int) := by omega
    refine Ev.step (fun k => by simp only [spec_leSearch.l1, if_pos ha', hlen] <;> exact rfl) ?_
    exact search_l2 n hn m hm l hs a (by omega) (arA n d (a + 1)) ih (ihd (a + 1) (by omega)) n 0 (by omega)
theorem search_l0 (n : Nat) (hn : n ≤ 4) (m : Nat) (hm : m ≤ 50) (l : List Int) (hs : SmallP n l) (R : List S79 × Bool)
    (h1 : missP n l > m → R = ([], false)) (h2 : ¬ missP n l > m → Ev (fun k => spec_leSearch.l1 k l (m : Int) (n : Int) 0) R) :
    ∀ (d i a : Nat), i + d = l.length → a ≤ i → a + missP n (l.drop i) = missP n l → Ev (fun k => spec_leSearch.l0 k l (m : Int) (a : Int) l (l.length : Int) (i : Int)) R := by
  have hlen := hs.1
  intro d
  have e3 : wrap64 (shl .i64 1 (l.length : Int) - 1) = ((2 ^ n - 1 : Nat) : Int) := by
    rw [shl_i64_at _ (by omega) (by omega), show ((l.length : Int)).toNat = n by omega]
    have : 1 ≤ 2 ^ n := Nat.one_le_two_pow
    have h32 : 2 ^ n ≤ 2 ^ 5 := Nat.pow_le_pow_right (by omega) (by omega)
    rw [w64 (by omega) (by omega)]
    omega
  have hmiss : ∀ l, missP n l = l.countP (fun x => x != ((2 ^ n - 1 : Nat) : Int)) := fun _ => rfl
  generalize ((2 ^ n - 1 : Nat) : Int) = T at hmiss e3
  have E3 := Aside0.mk e3
  clear e3
  induction d with
  | zero =>
    intro i a hi ha hf
    have hi' : ¬ (i : Int) < (l.length : Int) := by omega
    rw [List.drop_eq_nil_of_le (by omega)] at hf
    have hz : missP n ([] : List Int) = 0 := rfl
    by_cases hq : missP n l > m
    · have hq' : (a : Int) > (m : Int) := by omega
      rw [h1 hq]
      exact Ev.step (fun k => by simp only [spec_leSearch.l0, if_neg hi', if_pos hq'] <;> exact rfl) (ev_now _)
    · have hq' : ¬ (a : Int) > (m : Int) := by omega
      have h3 := h2 hq
      rw [← hlen] at h3
      exact Ev.step (fun k => by simp only [spec_leSearch.l0, if_neg hi', if_neg hq'] <;> exact rfl) h3
  | succ d ih =>
    intro i a hi ha hf
    have hlt : i < l.length := by omega
    have q1 : (i : Int) < (l.length : Int) := by omega
    have q2 : (0 : Int) ≤ (i : Int) := by omega
    have ei := w64 (show -9223372036854775808 ≤ (i : Int) + 1 by omega) (by omega)
    have ea := w64 (show -9223372036854775808 ≤ (a : Int) + 1 by omega) (by omega)
    have er : rd l (i : Int) = l.getD i 0 := rfl
    rw [drop_at l i 0 hlt, hmiss (_ :: _), List.countP_cons, ← hmiss (l.drop (i + 1))] at hf
    by_cases hq : l.getD i 0 = T
    · have hq' : rd l (i : Int) = T := hq
      refine Ev.step (fun k => by simp only [spec_leSearch.l0, if_pos q1, if_pos q2, E3.out, if_pos hq', ei] <;> exact rfl) ?_
      have hb : (l.getD i 0 != T) = false := by rw [hq]; simp
      rw [hb, if_neg (by decide), Nat.add_zero] at hf
      clear ei ea er hb hq' hq
      exact ih (i + 1) a (by omega) (by omega) hf
    · have hq' : ¬ rd l (i : Int) = T := hq
      refine Ev.step (fun k => by simp only [spec_leSearch.l0, if_pos q1, if_pos q2, E3.out, if_neg hq', ei, ea] <;> exact rfl) ?_
      have hb : (l.getD i 0 != T) = true := by simpa using hq
      rw [hb, if_pos rfl] at hf
      clear ei ea er hb hq' hq
      exact ih (i + 1) (a + 1) (by omega) (by omega) (by omega)
theorem search_ev (n : Nat) (hn : n ≤ 4) : ∀ (m : Nat) (l : List Int), m ≤ 50 → SmallP n l → Ev (fun k => spec_leSearch.f k l (m : Int)) (toS (lettS n m l)) := by
  intro m
  induction m with
  | zero =>
    intro l hm hs
    rw [lettS]
    have q : ((0 : Nat) : Int) = 0 := rfl
    refine Ev.step (fun k => by simp only [spec_leSearch.f, if_pos q] <;> exact rfl) (Ev.bind (caAll_ev (by omega : n ≤ 10) hs) ?_)
    cases ha : allP n l with
    | true => exact ev_now _
    | false => exact ev_now _
  | succ m ih =>
    intro l hm hs
    rw [lettS]
    have q : ¬ ((m + 1 : Nat) : Int) = 0 := by omega
    refine Ev.step (fun k => by simp only [spec_leSearch.f, if_neg q] <;> exact rfl) ?_
    refine search_l0 n hn (m + 1) hm l hs _ (fun h => by rw [if_pos h]; rfl) (fun h => ?_) l.length 0 0 (by omega) (by omega) (by rw [List.drop_zero, Nat.zero_add])
    rw [if_neg h]
    have := search_l1 n hn m (by omega) l hs (fun l' h' => ih l' (by omega) h') n 0 (by omega)
    rw [arrows_pr ⟨n, by omega⟩] at this
    exact this

def planOf : Nat → List S79
  | 2 => [⟨0, 1⟩, ⟨1, 0⟩]
  | 3 => [⟨0, 1⟩, ⟨1, 2⟩, ⟨2, 0⟩, ⟨2, 1⟩]
  | 4 => [⟨0, 1⟩, ⟨1, 2⟩, ⟨2, 3⟩, ⟨3, 0⟩, ⟨3, 1⟩, ⟨3, 2⟩]
  | _ => []
theorem plan_all : ∀ n : Fin 5, 1 ≤ n.val → (planOf n.val).length = 2 * (n.val - 1) ∧ followsL n.val (planOf n.val) (startP n.val) = true := by decide +kernel
def bestP (n : Nat) : List S79 := (lettI n (2 * (n - 1)) (startP n)).getD []
theorem best_some (n : Nat) (h1 : 1 ≤ n) (h2 : n ≤ 4) : lettI n (2 * (n - 1)) (startP n) = some (bestP n) := by
  obtain ⟨h3, h4⟩ := plan_all ⟨n, by omega⟩ h1
  have := followsL_lett n _ _ h4
  simp only at h3
  rw [h3] at this
  obtain ⟨p, hp⟩ := Option.isSome_iff_exists.1 this
  rw [bestP, hp]; rfl
theorem best_spec (n : Nat) (h1 : 1 ≤ n) (h2 : n ≤ 4) : lettS n (2 * (n - 1)) (startP n) = some (bestP n) := by
  rw [← lett_eq]; exact best_some n h1 h2
def resP (n : Int) : List S79 × Bool := if 1 ≤ n ∧ n ≤ 4 then (bestP n.toNat, true) else ([], false)
theorem resP_length (n : Int) : (resP n).1.length ≤ 1048576 := by
  unfold resP
  split
  · rename_i h
    have h1 := lettS_len _ _ _ _ (best_spec n.toNat (by omega) (by omega))
    show (bestP n.toNat).length ≤ _
    omega
  · exact Nat.zero_le _
theorem spec_ev (n : Int) : Ev (fun k => spec_FirstLetters.f k n) (resP n) := by
  unfold spec_FirstLetters.f resP spec_l1In.f
  by_cases h1 : 1 ≤ n
  · by_cases h2 : n ≤ 4
    · obtain ⟨m, rfl⟩ : ∃ m : Nat, n = (m : Int) := ⟨n.toNat, by omega⟩
      have e2 : wrap64 (2 * wrap64 ((m : Int) - 1)) = ((2 * (m - 1) : Nat) : Int) := by rw [w64 (x := (m : Int) - 1) (by omega) (by omega), w64 (by omega) (by omega)]; omega
      simp only [h1, h2, decide_true, if_true, and_self, Option.bind_some, e2]
      refine Ev.bind (caStart_ev (m : Int) h1 (by omega)) ?_
      rw [Int.toNat_natCast]
      refine Ev.bind (search_ev m (by omega) (2 * (m - 1)) (startP m) (by omega) (smallP_start m)) ?_
      rw [best_spec m (by omega) (by omega)]
      exact ev_now _
    · simpa [h1, h2] using ev_now _
  · simpa [h1] using ev_now _
theorem impl_ev (n : Int) : Ev (fun k => impl_FirstLetters.f k n) (resP n) := by
  unfold impl_FirstLetters.f resP impl_within.f
  by_cases h1 : 1 ≤ n
  · by_cases h2 : n ≤ 4
    · obtain ⟨m, rfl⟩ : ∃ m : Nat, n = (m : Int) := ⟨n.toNat, by omega⟩
      simp only [h1, h2, decide_true, if_true, and_self, Option.bind_some]
      refine Ev.bind (first_ev (m : Int) h1 (by omega)) ?_
      rw [Int.toNat_natCast]
      have := lit_ev m (by omega) (by omega) (2 * (m - 1)) (startP m) [] (smallP_start m) (by simp)
      refine Ev.bind this ?_
      unfold resI
      rw [best_some m (by omega) (by omega)]
      exact ev_now _
    · simpa [h1, h2] using ev_now _
  · simpa [h1] using ev_now _
theorem FnExactFirstLetters : laws_FnExactFirstLetters.Pure := by
  intro a0 w0
  apply Ev.rounds
  unfold laws_FnExactFirstLetters.f
  refine Ev.bind (spec_ev a0) ?_
  refine Ev.bind (impl_ev a0) ?_
  have hr : (resP a0).1.length ≤ 1048576 := resP_length a0
  have hm2 : ¬ (1 + 2 * (((resP a0).1.length : Nat) : Int)) < 0 := by omega
  refine Ev.bind (eqLetterS_ev _ hr) ?_
  simp only [bne_self_eq_false, Bool.false_eq_true, if_false, if_true]
  refine Ev.step (fun k => by simp only [laws_FnExactFirstLetters.j0, Bool.false_eq_true, if_false] <;> exact rfl) ?_
  refine Ev.bind (markLetterS_ev _ 1 hr (by omega) (by omega)) ?_
  refine Ev.bind (heldLetterS_ev _ 1 hr (by omega) (by omega)) ?_
  simp only [if_neg hm2, if_true]
  refine Ev.bind (impl_ev a0) ?_
  refine Ev.bind (eqLetterS_ev _ hr) ?_
  simp only [bne_self_eq_false, Bool.false_eq_true, if_false, if_true]
  refine Ev.step (fun k => by simp only [laws_FnExactFirstLetters.j1, Bool.false_eq_true, if_false] <;> exact rfl) ?_
  refine Ev.bind (heldLetterS_ev _ 1 hr (by omega) (by omega)) ?_
  simp only [if_neg hm2, if_true]
  exact ev_now _

end Go.Proofs.Ytnlmalicpckfbaa.Pure
