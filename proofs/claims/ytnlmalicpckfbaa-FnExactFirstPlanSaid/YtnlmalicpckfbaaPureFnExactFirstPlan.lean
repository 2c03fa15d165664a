/- The pure side of FnExactFirstPlan: program and reference agree at every argument. No condition beside what an argument is. -/
import Derived.Test.YtnlmalicpckfbaaPFnExactFirstPlanx14
import Derived.Test.YtnlmalicpckfbaaPBase
import Derived.Test.YtnlmalicpckfbaaHBits
namespace Go.Proofs.Ytnlmalicpckfbaa.Pure
open Go.RowKit Go.Proofs.Ytnlmalicpckfbaa.PFnExactFirstPlan Go.Proofs.YtnlmalicpckfbaaW.PrintWords Go.Proofs.YtnlmalicpckfbaaW.PrintLast Go.Proofs.YtnlmalicpckfbaaW.PrintMore Go.Proofs.Ytnlmalicpckfbaa.PB
set_option linter.unusedSimpArgs false
set_option linter.unusedVariables false
/-! calls: read, compared, marked -/
theorem eqCallS_l0 (a : List S68) (h : a.length ≤ 1048576) : ∀ (d : Nat) (i : Int), 0 ≤ i → i + d = a.length → Ev (fun k => laws_eqCallS.l0 k a a i) true := by
  intro d
  induction d with
  | zero =>
    intro i h0 hi
    refine ev_step (f := fun _ => some true) (fun k => ?_) (ev_now _)
    simp only [laws_eqCallS.l0]; rw [if_neg (by omega)]
  | succ d ih =>
    intro i h0 hi
    refine ev_step (f := fun k => laws_eqCallS.l0 k a a (i + 1)) (fun k => ?_) (ih _ (by omega) (by omega))
    simp only [laws_eqCallS.l0, laws_eqCall.f, if_true, Option.bind_some]
    rw [if_pos (by omega), if_pos h0, if_pos (by omega), w64 (by omega) (by omega)]
theorem eqCallS_ev (a : List S68) (h : a.length ≤ 1048576) : Ev (fun k => laws_eqCallS.f k a a) true := by
  unfold laws_eqCallS.f
  simp only [if_true]
  exact eqCallS_l0 a h a.length 0 (by omega) (by omega)

/-! calls: marked -/
def markedC (n : Nat) (m : Int) : List S68 := (List.range n).map fun i : Nat => ⟨m + 2 * (i : Int), m + 2 * (i : Int) + 1⟩
theorem markCallS_l0 (n : Nat) (m : Int) (hn : n ≤ 1048576) (hm : 0 ≤ m) (hm2 : m ≤ 1099511627776) : ∀ (d : Nat) (i : Int) (acc : List S68), 0 ≤ i → i + d = n → acc.length = n →
    (∀ j : Nat, (j : Int) < i → acc.getD j z68 = (markedC n m).getD j z68) → Ev (fun k => laws_markCallS.l0 k acc (m + 2 * i) i) (m + 2 * n, markedC n m) := by
  intro d
  induction d with
  | zero =>
    intro i acc h0 hi hl hacc
    refine ev_step (f := fun _ => some (m + 2 * i, acc)) (fun k => ?_) ?_
    · simp only [laws_markCallS.l0]; rw [if_neg (by omega)]
    · have e : acc = markedC n m := ext_getD z68 (by rw [hl]; simp [markedC]) (fun j hj => hacc j (by omega))
      rw [e, show m + 2 * i = m + 2 * n by omega]; exact ev_now _
  | succ d ih =>
    intro i acc h0 hi hl hacc
    refine ev_step (f := fun k => laws_markCallS.l0 k (acc.set i.toNat ⟨m + 2 * i, m + 2 * i + 1⟩) (m + 2 * (i + 1)) (i + 1)) (fun k => ?_) ?_
    · have hi' : i.toNat < acc.length := by omega
      simp only [laws_markCallS.l0, Option.bind_some, rd_T68]
      rw [if_pos (by omega), if_pos h0, w64 (by omega) (by omega), w64 (by omega) (by omega), w64 (by omega) (by omega), show m + 2 * i + 1 + 1 = m + 2 * (i + 1) by omega, List.set_set, getD_set _ _ _ _ _ hi']
      simp
    · refine ih (i + 1) _ (by omega) (by omega) (by simpa using hl) (fun j hj => ?_)
      rw [getD_set _ _ _ _ _ (by omega)]
      split
      · rename_i e
        subst e
        rw [markedC, getD_range_map _ _ _ _ (by omega), show ((i.toNat : Nat) : Int) = i by omega]
      · exact hacc j (by omega)
theorem markCallS_ev (l : List S68) (m : Int) (hn : l.length ≤ 1048576) (hm : 0 ≤ m) (hm2 : m ≤ 1099511627776) : Ev (fun k => laws_markCallS.f k l m) (m + 2 * (l.length : Int), markedC l.length m) := by
  unfold laws_markCallS.f
  have := markCallS_l0 l.length m hn hm hm2 l.length 0 l (by omega) (by omega) rfl (fun j hj => by omega)
  simpa using this

/-! calls: held -/
theorem heldCallS_l0 (n : Nat) (m : Int) (hn : n ≤ 1048576) (hm : 0 ≤ m) (hm2 : m ≤ 1099511627776) : ∀ (d : Nat) (i : Int), 0 ≤ i → i + d = n → Ev (fun k => laws_heldCallS.l0 k (markedC n m) (m + 2 * i) i) (m + 2 * n) := by
  intro d
  have hl : (markedC n m).length = n := by simp [markedC]
  induction d with
  | zero =>
    intro i h0 hi
    refine ev_step (f := fun _ => some (m + 2 * i)) (fun k => ?_) ?_
    · simp only [laws_heldCallS.l0]; rw [if_neg (by omega)]
    · rw [show m + 2 * i = m + 2 * n by omega]; exact ev_now _
  | succ d ih =>
    intro i h0 hi
    refine ev_step (f := fun k => laws_heldCallS.l0 k (markedC n m) (m + 2 * (i + 1)) (i + 1)) (fun k => ?_) (ih _ (by omega) (by omega))
    have e : rd_T68 (markedC n m) i = ⟨m + 2 * i, m + 2 * i + 1⟩ := by
      show (markedC n m).getD i.toNat z68 = _
      rw [markedC, getD_range_map _ _ _ _ (by omega), show ((i.toNat : Nat) : Int) = i by omega]
    simp only [laws_heldCallS.l0, e, if_true]
    rw [if_pos (by omega), if_pos h0, w64 (by omega) (by omega), w64 (by omega) (by omega), w64 (by omega) (by omega), if_pos rfl, show m + 2 * i + 1 + 1 = m + 2 * (i + 1) by omega]
theorem heldCallS_ev (n : Nat) (m : Int) (hn : n ≤ 1048576) (hm : 0 ≤ m) (hm2 : m ≤ 1099511627776) : Ev (fun k => laws_heldCallS.f k (markedC n m) m) (m + 2 * (n : Int)) := by
  unfold laws_heldCallS.f
  have := heldCallS_l0 n m hn hm hm2 n 0 (by omega) (by omega)
  simpa using this

def isCallB (n a b : Int) : Bool := decide (0 ≤ a) && (decide (a < b) && decide (b < n))
/-! news: what friends know, as numbers below 2^n -/
def orI (a b : Int) : Int := ((a.toNat ||| b.toNat : Nat) : Int)
def startP (n : Nat) : List Int := (List.range n).map fun i => ((2 ^ i : Nat) : Int)
def SmallP (n : Nat) (l : List Int) : Prop := l.length = n ∧ ∀ x ∈ l, 0 ≤ x ∧ x < ((2 ^ n : Nat) : Int)
theorem smallP_at {n : Nat} {l : List Int} (h : SmallP n l) (i : Nat) (hi : i < n) : 0 ≤ l.getD i 0 ∧ l.getD i 0 < ((2 ^ n : Nat) : Int) := by
  have hl : i < l.length := by rw [h.1]; exact hi
  rw [getD_at l i 0 hl]
  exact h.2 _ (List.getElem_mem hl)
theorem smallP_1024 {n : Nat} {l : List Int} (h : SmallP n l) (hn : n ≤ 10) (i : Nat) (hi : i < n) : 0 ≤ l.getD i 0 ∧ l.getD i 0 < 1024 := by
  have h1 := smallP_at h i hi
  have h2 : 2 ^ n ≤ 2 ^ 10 := Nat.pow_le_pow_right (by omega) hn
  omega
theorem smallP_start (n : Nat) : SmallP n (startP n) := by
  refine ⟨by simp [startP], fun x hx => ?_⟩
  obtain ⟨i, hi, rfl⟩ := List.mem_map.1 hx
  have : i < n := by simpa using hi
  have h2 : 2 ^ i < 2 ^ n := Nat.pow_lt_pow_right (by omega) this
  have h3 : 0 < 2 ^ i := Nat.two_pow_pos i
  omega
theorem orI_lt {n : Nat} {a b : Int} (ha : 0 ≤ a ∧ a < ((2 ^ n : Nat) : Int)) (hb : 0 ≤ b ∧ b < ((2 ^ n : Nat) : Int)) : 0 ≤ orI a b ∧ orI a b < ((2 ^ n : Nat) : Int) := by
  have h := Nat.or_lt_two_pow (x := a.toNat) (y := b.toNat) (n := n) (by omega) (by omega)
  unfold orI
  omega
theorem smallP_set {n : Nat} {l : List Int} (h : SmallP n l) (i : Nat) (x : Int) (hx : 0 ≤ x ∧ x < ((2 ^ n : Nat) : Int)) : SmallP n (l.set i x) := by
  refine ⟨by rw [List.length_set, h.1], fun y hy => ?_⟩
  rcases List.mem_or_eq_of_mem_set hy with h1 | h1
  · exact h.2 y h1
  · rw [h1]; exact hx
theorem or_i64 {a b : Int} (ha : 0 ≤ a ∧ a < 1024) (hb : 0 ≤ b ∧ b < 1024) : Go.bits .or .i64 a b = orI a b := by
  have h := (bits_nat .i64 10 (by decide) (fun n h0 h1 => by rw [IntKind.wrap_i64]; omega) a.toNat b.toNat (by omega) (by omega)).2
  rw [show ((a.toNat : Nat) : Int) = a by omega, show ((b.toNat : Nat) : Int) = b by omega] at h
  exact h
theorem or_u16 {a b : Int} (ha : 0 ≤ a ∧ a < 1024) (hb : 0 ≤ b ∧ b < 1024) : Go.bits .or .u16 a b = orI a b := by
  have h := (bits_nat .u16 10 (by decide) (fun n h0 h1 => by simp [IntKind.wrap, IntKind.bits, IntKind.signed]; omega) a.toNat b.toNat (by omega) (by omega)).2
  rw [show ((a.toNat : Nat) : Int) = a by omega, show ((b.toNat : Nat) : Int) = b by omega] at h
  exact h
theorem shl_i64_all : ∀ i : Fin 11, shl .i64 1 (i.val : Int) = ((2 ^ i.val : Nat) : Int) := by decide +kernel
theorem shl_u16_all : ∀ i : Fin 11, shl .u16 1 (i.val : Int) = ((2 ^ i.val : Nat) : Int) := by decide +kernel
theorem shl_i64_at (i : Int) (h0 : 0 ≤ i) (h1 : i ≤ 10) : shl .i64 1 i = ((2 ^ i.toNat : Nat) : Int) := by
  have := shl_i64_all ⟨i.toNat, by omega⟩
  simp only [Int.toNat_of_nonneg h0] at this
  exact this
theorem shl_u16_at (i : Int) (h0 : 0 ≤ i) (h1 : i ≤ 10) : shl .u16 1 i = ((2 ^ i.toNat : Nat) : Int) := by
  have := shl_u16_all ⟨i.toNat, by omega⟩
  simp only [Int.toNat_of_nonneg h0] at this
  exact this
theorem startP_take (n i : Nat) (h : i < n) : (startP n).take (i + 1) = (startP n).take i ++ [((2 ^ i : Nat) : Int)] := by
  rw [take_at (startP n) i 0 (by simpa [startP] using h), startP, getD_range_map _ _ _ _ h]
theorem caStart_l0 (n : Nat) (hn : n ≤ 10) : ∀ (d : Nat) (i : Int), 0 ≤ i → i + d = n → Ev (fun k => spec_caStart.l0 k (n : Int) ((startP n).take i.toNat) i) (startP n) := by
  intro d
  have hl : (startP n).length = n := by simp [startP]
  induction d with
  | zero =>
    intro i h0 hi
    refine ev_step (f := fun _ => some ((startP n).take i.toNat)) (fun k => ?_) ?_
    · simp only [spec_caStart.l0]; rw [if_neg (by omega)]
    · rw [List.take_of_length_le (by omega)]; exact ev_now _
  | succ d ih =>
    intro i h0 hi
    refine ev_step (f := fun k => spec_caStart.l0 k (n : Int) ((startP n).take (i + 1).toNat) (i + 1)) (fun k => ?_) (ih _ (by omega) (by omega))
    simp only [spec_caStart.l0]
    rw [if_pos (by omega), if_pos h0, if_pos (by rw [List.length_take]; omega), w64 (by omega) (by omega), shl_i64_at i h0 (by omega), ← startP_take n i.toNat (by omega), show (i + 1).toNat = i.toNat + 1 by omega]
theorem caStart_ev (n : Int) (h1 : 1 ≤ n) (h2 : n ≤ 10) : Ev (fun k => spec_caStart.f k n) (startP n.toNat) := by
  have := caStart_l0 n.toNat (by omega) n.toNat 0 (by omega) (by omega)
  unfold spec_caStart.f
  simpa [show ((n.toNat : Nat) : Int) = n by omega] using this
theorem first_l0 (n : Nat) (hn : n ≤ 10) : ∀ (d : Nat) (i : Int), 0 ≤ i → i + d = n → Ev (fun k => impl_first.l0 k ((startP n).take i.toNat) (n : Int) i) (startP n) := by
  intro d
  have hl : (startP n).length = n := by simp [startP]
  induction d with
  | zero =>
    intro i h0 hi
    refine ev_step (f := fun _ => some ((startP n).take i.toNat)) (fun k => ?_) ?_
    · simp only [impl_first.l0]; rw [if_neg (by omega)]
    · rw [List.take_of_length_le (by omega)]; exact ev_now _
  | succ d ih =>
    intro i h0 hi
    refine ev_step (f := fun k => impl_first.l0 k ((startP n).take (i + 1).toNat) (n : Int) (i + 1)) (fun k => ?_) (ih _ (by omega) (by omega))
    simp only [impl_first.l0]
    rw [if_pos (by omega), if_pos h0, if_pos (by rw [List.length_take]; omega), w64 (by omega) (by omega), shl_u16_at i h0 (by omega), ← startP_take n i.toNat (by omega), show (i + 1).toNat = i.toNat + 1 by omega]
theorem first_ev (n : Int) (h1 : 1 ≤ n) (h2 : n ≤ 10) : Ev (fun k => impl_first.f k n) (startP n.toNat) := by
  have := first_l0 n.toNat (by omega) n.toNat 0 (by omega) (by omega)
  unfold impl_first.f
  simpa [show ((n.toNat : Nat) : Int) = n by omega] using this

/-! all know -/
theorem pop_all : ∀ n : Fin 11, ∀ x : Fin 1024, x.val < 2 ^ n.val → (Go.Proofs.Ytnlmalicpckfbaa.H.pop16 x.val ≤ n.val ∧ (Go.Proofs.Ytnlmalicpckfbaa.H.pop16 x.val = n.val ↔ x.val = 2 ^ n.val - 1)) := by decide +kernel
def popI (x : Int) : Nat := Go.Proofs.Ytnlmalicpckfbaa.H.pop16 x.toNat
theorem popI_le {n : Nat} (hn : n ≤ 10) {x : Int} (hx : 0 ≤ x ∧ x < ((2 ^ n : Nat) : Int)) : popI x ≤ n ∧ (popI x = n ↔ x = ((2 ^ n - 1 : Nat) : Int)) := by
  have h2 : 2 ^ n ≤ 2 ^ 10 := Nat.pow_le_pow_right (by omega) hn
  have h := pop_all ⟨n, by omega⟩ ⟨x.toNat, by omega⟩ (by show x.toNat < 2 ^ n; omega)
  have h' : Go.Proofs.Ytnlmalicpckfbaa.H.pop16 x.toNat ≤ n ∧ (Go.Proofs.Ytnlmalicpckfbaa.H.pop16 x.toNat = n ↔ x.toNat = 2 ^ n - 1) := h
  refine ⟨h'.1, h'.2.trans ⟨fun e => by omega, fun e => by omega⟩⟩
def sumP (l : List Int) : Nat := (l.map popI).sum
theorem sumP_le (n : Nat) : ∀ (l : List Int), (∀ x ∈ l, popI x ≤ n) → sumP l ≤ n * l.length ∧ (sumP l = n * l.length ↔ ∀ x ∈ l, popI x = n)
  | [], _ => by simp [sumP]
  | x :: l, h => by
    have ih := sumP_le n l (fun y hy => h y (List.mem_cons_of_mem _ hy))
    have hx := h x (List.mem_cons_self)
    have e : sumP (x :: l) = popI x + sumP l := by simp [sumP]
    rw [e, List.length_cons, Nat.mul_succ]
    refine ⟨by omega, ⟨fun hh => ?_, fun hh => ?_⟩⟩
    · intro y hy
      rcases List.mem_cons.1 hy with rfl | hy
      · omega
      · exact (ih.2.1 (by omega)) y hy
    · have h1 := hh x (List.mem_cons_self)
      have h2 := ih.2.2 (fun y hy => hh y (List.mem_cons_of_mem _ hy))
      omega
def allP (n : Nat) (l : List Int) : Bool := l.all fun x => x == ((2 ^ n - 1 : Nat) : Int)
theorem allP_sum {n : Nat} (hn : n ≤ 10) {l : List Int} (h : SmallP n l) : (((sumP l : Nat) : Int) == (n : Int) * (n : Int)) = allP n l := by
  have hp := fun x hx => popI_le hn (h.2 x hx)
  have hs := sumP_le n l (fun x hx => (hp x hx).1)
  rw [h.1] at hs
  rw [Bool.eq_iff_iff, beq_iff_eq, allP, List.all_eq_true]
  constructor
  · intro e x hx
    rw [beq_iff_eq]
    exact (hp x hx).2.1 (hs.2.1 (by exact_mod_cast e) x hx)
  · intro e
    have := hs.2.2 (fun x hx => (hp x hx).2.2 (by simpa using e x hx))
    exact_mod_cast this
theorem onesCount_f {x : Int} (hx : 0 ≤ x ∧ x < 1024) : bits_OnesCount16.f x = some ((popI x : Nat) : Int) := by
  unfold bits_OnesCount16.f
  rw [if_pos hx.1, if_pos (by omega)]
  rfl
theorem popI_le16 (x : Int) : popI x ≤ 16 := by
  have := List.countP_le_length (p := fun i => x.toNat.testBit i) (l := List.range 16)
  simpa [popI, Go.Proofs.Ytnlmalicpckfbaa.H.pop16] using this
theorem sumP_le16 (l : List Int) : sumP l ≤ 16 * l.length := (sumP_le 16 l (fun x _ => popI_le16 x)).1
theorem count_l0 {n : Nat} (hn : n ≤ 10) {l : List Int} (h : SmallP n l) : ∀ (d : Nat) (i : Int) (a : Nat), 0 ≤ i → i + d = l.length → a ≤ 16 * i.toNat → Ev (fun k => impl_news_count.l0 k (a : Int) l (l.length : Int) i) ((a + sumP (l.drop i.toNat) : Nat) : Int) := by
  intro d
  have hl := h.1
  induction d with
  | zero =>
    intro i a h0 hi ha
    refine ev_step (f := fun _ => some (a : Int)) (fun k => ?_) ?_
    · simp only [impl_news_count.l0]; rw [if_neg (by omega)]
    · rw [List.drop_eq_nil_of_le (by omega)]; exact ev_now _
  | succ d ih =>
    intro i a h0 hi ha
    have hd := drop_at l i.toNat 0 (by omega)
    have hp := popI_le16 (l.getD i.toNat 0)
    refine ev_step (f := fun k => impl_news_count.l0 k ((a + popI (l.getD i.toNat 0) : Nat) : Int) l (l.length : Int) (i + 1)) (fun k => ?_) ?_
    · simp only [impl_news_count.l0]
      rw [if_pos (by omega), if_pos h0, if_pos (by omega), onesCount_f (show 0 ≤ rd l i ∧ rd l i < 1024 from smallP_1024 h hn i.toNat (by omega))]
      simp only [Option.bind_some]
      rw [w64 (x := i + 1) (by omega) (by omega), show rd l i = l.getD i.toNat 0 from rfl, w64 (by omega) (by omega)]
      rfl
    · have := ih (i + 1) (a + popI (l.getD i.toNat 0)) (by omega) (by omega) (by omega)
      rw [show (i + 1).toNat = i.toNat + 1 by omega] at this
      rw [hd]
      have e : sumP (l.getD i.toNat 0 :: l.drop (i.toNat + 1)) = popI (l.getD i.toNat 0) + sumP (l.drop (i.toNat + 1)) := by simp [sumP]
      rw [e, ← Nat.add_assoc]
      exact this
theorem count_ev {n : Nat} (hn : n ≤ 10) {l : List Int} (h : SmallP n l) : Ev (fun k => impl_news_count.f k l) ((sumP l : Nat) : Int) := by
  have hl := h.1
  have := count_l0 hn h l.length 0 0 (by omega) (by omega) (by omega)
  unfold impl_news_count.f
  simpa using this

theorem allKnow_ev {n : Nat} (hn : n ≤ 10) {l : List Int} (h : SmallP n l) : Ev (fun k => impl_news_allKnow.f k l) (allP n l) := by
  have hl := h.1
  unfold impl_news_allKnow.f
  refine Ev.bind (count_ev hn h) ?_
  have e : (l.length : Int) * (l.length : Int) = (n : Int) * (n : Int) := by rw [hl]
  have hb : (n : Int) * (n : Int) ≤ 10 * 10 := Int.mul_le_mul (by omega) (by omega) (by omega) (by omega)
  have hb0 : 0 ≤ (n : Int) * (n : Int) := Int.mul_nonneg (by omega) (by omega)
  rw [e, w64 (by omega) (by omega), allP_sum hn h]
  exact ev_now _
theorem caAll_l0 {n : Nat} (hn : n ≤ 10) {l : List Int} (h : SmallP n l) : ∀ (d : Nat) (i : Int), 0 ≤ i → i + d = l.length → Ev (fun k => spec_caAll.l0 k l l (l.length : Int) i) (allP n (l.drop i.toNat)) := by
  intro d
  have hl := h.1
  have hw : wrap64 ((shl .i64 1 (l.length : Int)) - 1) = ((2 ^ n - 1 : Nat) : Int) := by
    have h2 : 2 ^ n ≤ 2 ^ 10 := Nat.pow_le_pow_right (by omega) hn
    have h3 : 0 < 2 ^ n := Nat.two_pow_pos n
    rw [shl_i64_at _ (by omega) (by omega), hl, show ((n : Int)).toNat = n by omega, w64 (by omega) (by omega)]
    omega
  induction d with
  | zero =>
    intro i h0 hi
    refine ev_step (f := fun _ => some true) (fun k => ?_) ?_
    · simp only [spec_caAll.l0]; rw [if_neg (by omega)]
    · rw [List.drop_eq_nil_of_le (by omega)]; exact ev_now _
  | succ d ih =>
    intro i h0 hi
    have hd := drop_at l i.toNat 0 (by omega)
    have ea : allP n (l.drop i.toNat) = ((l.getD i.toNat 0 == ((2 ^ n - 1 : Nat) : Int)) && allP n (l.drop (i.toNat + 1))) := by rw [hd]; rfl
    rw [ea]
    by_cases hq : l.getD i.toNat 0 = ((2 ^ n - 1 : Nat) : Int)
    · refine ev_step (f := fun k => spec_caAll.l0 k l l (l.length : Int) (i + 1)) (fun k => ?_) ?_
      · simp only [spec_caAll.l0, hw, show rd l i = l.getD i.toNat 0 from rfl]
        rw [if_pos (by omega), if_pos h0, if_pos (by omega), if_pos hq, w64 (by omega) (by omega)]
      · have := ih (i + 1) (by omega) (by omega)
        rw [show (i + 1).toNat = i.toNat + 1 by omega] at this
        rw [beq_iff_eq.2 hq, Bool.true_and]
        exact this
    · refine ev_step (f := fun _ => some false) (fun k => ?_) ?_
      · simp only [spec_caAll.l0, hw, show rd l i = l.getD i.toNat 0 from rfl]
        rw [if_pos (by omega), if_pos h0, if_pos (by omega), if_neg hq]
      · rw [beq_eq_false_iff_ne.2 hq, Bool.false_and]; exact ev_now _
theorem caAll_ev {n : Nat} (hn : n ≤ 10) {l : List Int} (h : SmallP n l) : Ev (fun k => spec_caAll.f k l) (allP n l) := by
  have hl := h.1
  have := caAll_l0 hn h l.length 0 (by omega) (by omega)
  unfold spec_caAll.f
  simpa using this

/-! news behind calls -/
def meetP (l : List Int) (c : S68) : List Int := (l.set c.f0.toNat (orI (l.getD c.f0.toNat 0) (l.getD c.f1.toNat 0))).set c.f1.toNat (orI (l.getD c.f0.toNat 0) (l.getD c.f1.toNat 0))
def playP (n : Nat) (cs : List S68) : List Int := cs.foldl meetP (startP n)
theorem isCallB_true {n a b : Int} (h : isCallB n a b = true) : 0 ≤ a ∧ a < b ∧ b < n := by simpa [isCallB] using h
theorem smallP_meet {n : Nat} {l : List Int} (h : SmallP n l) (c : S68) (hc : isCallB n c.f0 c.f1 = true) : SmallP n (meetP l c) := by
  obtain ⟨h1, h2, h3⟩ := isCallB_true hc
  have hx := orI_lt (smallP_at h c.f0.toNat (by omega)) (smallP_at h c.f1.toNat (by omega))
  exact smallP_set (smallP_set h _ _ hx) _ _ hx
theorem smallP_foldl {n : Nat} : ∀ (cs : List S68) (l : List Int), SmallP n l → (∀ c ∈ cs, isCallB n c.f0 c.f1 = true) → SmallP n (cs.foldl meetP l)
  | [], _, h, _ => h
  | c :: cs, _, h, hc => smallP_foldl cs _ (smallP_meet h c (hc c (List.mem_cons_self))) (fun d hd => hc d (List.mem_cons_of_mem _ hd))
theorem smallP_play {n : Nat} (cs : List S68) (hc : ∀ c ∈ cs, isCallB n c.f0 c.f1 = true) : SmallP n (playP n cs) := smallP_foldl cs _ (smallP_start n) hc
theorem caMake_f {n : Nat} (hn : n ≤ 10) {l : List Int} (h : SmallP n l) (c : S68) (hc : isCallB n c.f0 c.f1 = true) : spec_caMake.f l c.f0 c.f1 = some (meetP l c) := by
  obtain ⟨h1, h2, h3⟩ := isCallB_true hc
  have hl := h.1
  unfold spec_caMake.f spec_l1Own.f
  simp only [Option.bind_some, List.nil_append, List.length_nil]
  rw [if_pos (by omega)]
  simp only [Option.bind_some]
  rw [if_pos h1, if_pos (by omega), if_pos (by omega), if_pos (by omega), if_pos (by omega), if_pos (by omega)]
  rw [or_i64 (show 0 ≤ rd l c.f0 ∧ rd l c.f0 < 1024 from smallP_1024 h hn c.f0.toNat (by omega)) (show 0 ≤ rd l c.f1 ∧ rd l c.f1 < 1024 from smallP_1024 h hn c.f1.toNat (by omega))]
  rfl
theorem meet_f {n : Nat} (hn : n ≤ 10) {l : List Int} (h : SmallP n l) (c : S68) (hc : isCallB n c.f0 c.f1 = true) : impl_news_meet.f l c.f0 c.f1 = some (meetP l c) := by
  obtain ⟨h1, h2, h3⟩ := isCallB_true hc
  have hl := h.1
  unfold impl_news_meet.f
  rw [if_pos h1, if_pos (by omega), if_pos (by omega), if_pos (by omega)]
  rw [or_u16 (show 0 ≤ rd l c.f0 ∧ rd l c.f0 < 1024 from smallP_1024 h hn c.f0.toNat (by omega)) (show 0 ≤ rd l c.f1 ∧ rd l c.f1 < 1024 from smallP_1024 h hn c.f1.toNat (by omega))]
  rfl
/-! the first of a list -/
theorem none_of {α : Type} {o : Option α} (h : ∀ p, o ≠ some p) : o = none := by cases o with
  | none => rfl
  | some p => exact absurd rfl (h p)
theorem findSome_congr {α β : Type} {f g : α → Option β} : ∀ (l : List α), (∀ a ∈ l, f a = g a) → l.findSome? f = l.findSome? g
  | [], _ => rfl
  | a :: l, h => by
    rw [List.findSome?_cons, List.findSome?_cons, h a (List.mem_cons_self), findSome_congr l (fun b hb => h b (List.mem_cons_of_mem _ hb))]

/-! the plans' search -/
def pairsP (n : Nat) : List S68 := (List.range n).flatMap fun a => ((List.range n).filter fun b : Nat => decide (a < b)).map fun b : Nat => ⟨(a : Int), (b : Int)⟩
def missP (n : Nat) (l : List Int) : Nat := l.countP fun x => x != ((2 ^ n - 1 : Nat) : Int)
def planI (n : Nat) : Nat → List Int → Option (List S68)
  | 0, l => if allP n l = true then some [] else none
  | m + 1, l => (pairsP n).findSome? fun c => if l.getD c.f0.toNat 0 = l.getD c.f1.toNat 0 then none else (planI n m (meetP l c)).map (c :: ·)
def planS (n : Nat) : Nat → List Int → Option (List S68)
  | 0, l => if allP n l = true then some [] else none
  | m + 1, l => if allP n l = true then none else if missP n l > 2 * (m + 1) then none else (pairsP n).findSome? fun c => (planS n m (meetP l c)).map (c :: ·)
def solB (n : Nat) : Nat → List Int → Bool
  | 0, l => allP n l
  | m + 1, l => allP n l || (pairsP n).any fun c => solB n m (meetP l c)
def solC (n : Nat) : Nat → List Int → Bool
  | 0, l => allP n l
  | m + 1, l => allP n l || (Nat.ble (missP n l) (2 * (m + 1)) && (pairsP n).any fun c => solC n m (meetP l c))
theorem missP_meet (n : Nat) (l : List Int) (c : S68) : missP n l ≤ missP n (meetP l c) + 2 := by
  have hset : ∀ (l : List Int) (i : Nat) (x : Int), missP n l ≤ missP n (l.set i x) + 1 := by
    intro l
    induction l with
    | nil => intro i x; simp [missP]
    | cons y l ih =>
      intro i x
      cases i with
      | zero => simp only [missP, List.set_cons_zero, List.countP_cons]; split <;> split <;> omega
      | succ i => have := ih i x; simp only [missP, List.set_cons_succ, List.countP_cons] at this ⊢; omega
  have h1 := hset l c.f0.toNat (orI (l.getD c.f0.toNat 0) (l.getD c.f1.toNat 0))
  have h2 := hset (l.set c.f0.toNat (orI (l.getD c.f0.toNat 0) (l.getD c.f1.toNat 0))) c.f1.toNat (orI (l.getD c.f0.toNat 0) (l.getD c.f1.toNat 0))
  unfold meetP
  omega
theorem missP_all (n : Nat) (l : List Int) : allP n l = true → missP n l = 0 := by
  intro h
  rw [missP, List.countP_eq_zero]
  intro x hx
  have := List.all_eq_true.1 h x hx
  simpa using this
theorem solB_miss (n : Nat) : ∀ (m : Nat) (l : List Int), solB n m l = true → missP n l ≤ 2 * m
  | 0, l, h => by have := missP_all n l h; omega
  | m + 1, l, h => by
    rw [solB, Bool.or_eq_true] at h
    rcases h with h | h
    · have := missP_all n l h; omega
    · obtain ⟨c, _, hc⟩ := List.any_eq_true.1 h
      have h1 := solB_miss n m _ hc
      have h2 := missP_meet n l c
      omega
theorem solB_C (n : Nat) : ∀ (m : Nat) (l : List Int), solB n m l = true → solC n m l = true
  | 0, l, h => h
  | m + 1, l, h => by
    have hm := solB_miss n (m + 1) l h
    rw [solB, Bool.or_eq_true] at h
    rw [solC, Bool.or_eq_true]
    rcases h with h | h
    · exact .inl h
    · obtain ⟨c, hc, h2⟩ := List.any_eq_true.1 h
      refine .inr ?_
      rw [Bool.and_eq_true]
      exact ⟨Nat.ble_eq_true_of_le hm, List.any_eq_true.2 ⟨c, hc, solB_C n m _ h2⟩⟩
theorem solB_succ (n : Nat) : ∀ (m : Nat) (l : List Int), solB n m l = true → solB n (m + 1) l = true
  | 0, l, h => by rw [solB, Bool.or_eq_true]; exact .inl h
  | m + 1, l, h => by
    rw [solB, Bool.or_eq_true] at h ⊢
    rcases h with h | h
    · exact .inl h
    · obtain ⟨c, hc, h2⟩ := List.any_eq_true.1 h
      exact .inr (List.any_eq_true.2 ⟨c, hc, solB_succ n m _ h2⟩)
theorem solB_all (n m : Nat) (l : List Int) (h : allP n l = true) : solB n m l = true := by
  cases m with
  | zero => exact h
  | succ m => rw [solB, h, Bool.true_or]
theorem solB_step {n m : Nat} {l : List Int} {c : S68} (hc : c ∈ pairsP n) (h : solB n m (meetP l c) = true) : solB n (m + 1) l = true := by
  rw [solB, Bool.or_eq_true]
  exact .inr (List.any_eq_true.2 ⟨c, hc, h⟩)
theorem planI_sol (n : Nat) : ∀ (m : Nat) (l : List Int) (p : List S68), planI n m l = some p → solB n m l = true
  | 0, l, p, h => by
    rw [planI] at h
    by_cases ha : allP n l = true
    · exact ha
    · rw [if_neg ha] at h; cases h
  | m + 1, l, p, h => by
    rw [planI] at h
    obtain ⟨c, hc, h2⟩ := List.exists_of_findSome?_eq_some h
    split at h2
    · cases h2
    · obtain ⟨q, hq, _⟩ := Option.map_eq_some_iff.1 h2
      exact solB_step hc (planI_sol n m _ q hq)
theorem planS_sol (n : Nat) : ∀ (m : Nat) (l : List Int) (p : List S68), planS n m l = some p → solB n m l = true
  | 0, l, p, h => by
    rw [planS] at h
    by_cases ha : allP n l = true
    · exact ha
    · rw [if_neg ha] at h; cases h
  | m + 1, l, p, h => by
    rw [planS] at h
    split at h
    · cases h
    · split at h
      · cases h
      · obtain ⟨c, hc, h2⟩ := List.exists_of_findSome?_eq_some h
        obtain ⟨q, hq, _⟩ := Option.map_eq_some_iff.1 h2
        exact solB_step hc (planS_sol n m _ q hq)
theorem meetP_same {l : List Int} {c : S68} (h : l.getD c.f0.toNat 0 = l.getD c.f1.toNat 0) (hp : ∀ x ∈ l, 0 ≤ x) (h0 : c.f0.toNat < l.length) (h1 : c.f1.toNat < l.length) : meetP l c = l := by
  have hx : 0 ≤ l.getD c.f0.toNat 0 := by rw [getD_at _ _ _ h0]; exact hp _ (List.getElem_mem h0)
  have e : orI (l.getD c.f0.toNat 0) (l.getD c.f1.toNat 0) = l.getD c.f0.toNat 0 := by
    rw [← h, orI, Nat.or_self]; omega
  unfold meetP
  rw [e]
  have s : ∀ (i : Nat), i < l.length → l.set i (l.getD i 0) = l := fun i hi => by rw [getD_at _ _ _ hi]; exact List.set_getElem_self hi
  rw [s _ h0, h, s _ h1]
theorem pairsP_mem {n : Nat} {c : S68} (h : c ∈ pairsP n) : 0 ≤ c.f0 ∧ c.f0 < c.f1 ∧ c.f1 < (n : Int) := by
  simp only [pairsP, List.mem_flatMap, List.mem_map, List.mem_filter, List.mem_range, decide_eq_true_eq] at h
  obtain ⟨a, ha, b, ⟨hb, hab⟩, rfl⟩ := h
  exact ⟨by dsimp; omega, by dsimp; omega, by dsimp; omega⟩
theorem plan_eq (n : Nat) : ∀ (m : Nat) (l : List Int), SmallP n l → (∀ m', m = m' + 1 → solB n m' l = false) → planI n m l = planS n m l
  | 0, l, _, _ => rfl
  | m + 1, l, hs, h => by
    have hm := h m rfl
    have ha : ¬ allP n l = true := fun ha => by rw [solB_all n m l ha] at hm; cases hm
    rw [planS, if_neg ha]
    by_cases hmiss : missP n l > 2 * (m + 1)
    · rw [if_pos hmiss]
      exact none_of fun p hp => by have := solB_miss n _ _ (planI_sol n _ _ p hp); omega
    · rw [if_neg hmiss, planI]
      refine findSome_congr _ (fun c hc => ?_)
      have hcc := pairsP_mem hc
      have hs' := smallP_meet hs c (by simp [isCallB, hcc])
      split
      · rename_i e
        have e2 : meetP l c = l := meetP_same e (fun x hx => (hs.2 x hx).1) (by rw [hs.1]; omega) (by rw [hs.1]; omega)
        have : planS n m (meetP l c) = none := none_of fun p hp => by rw [e2] at hp; have := planS_sol n _ _ p hp; rw [this] at hm; cases hm
        rw [this]; rfl
      · rw [plan_eq n m _ hs' (fun m' e => ?_)]
        subst e
        rw [Bool.eq_false_iff]
        intro hh
        rw [solB_step hc hh] at hm; cases hm
def follows (n : Nat) : List S68 → List Int → Bool
  | [], l => allP n l
  | c :: p, l => (pairsP n).any (fun d => d.f0 == c.f0 && d.f1 == c.f1) && (l.getD c.f0.toNat 0 != l.getD c.f1.toNat 0 && follows n p (meetP l c))
theorem follows_plan (n : Nat) : ∀ (p : List S68) (l : List Int), follows n p l = true → (planI n p.length l).isSome = true
  | [], l, h => by rw [follows] at h; rw [List.length_nil, planI, if_pos h]; rfl
  | c :: p, l, h => by
    rw [follows, Bool.and_eq_true, Bool.and_eq_true] at h
    obtain ⟨h1, h2, h3⟩ := h
    obtain ⟨d, hd, he⟩ := List.any_eq_true.1 h1
    have e : d = c := by
      rw [Bool.and_eq_true, beq_iff_eq, beq_iff_eq] at he
      cases d; cases c; simp at he; simp [he]
    subst e
    rw [List.length_cons, planI, List.findSome?_isSome_iff]
    refine ⟨d, hd, ?_⟩
    rw [if_neg (by simpa using h2), Option.isSome_map]
    exact follows_plan n p _ h3

/-! the program's search, run -/
instance : DecidableEq S68 := fun a b => if h : a.f0 = b.f0 ∧ a.f1 = b.f1 then isTrue (by cases a; cases b; simp at h; simp [h]) else isFalse (fun e => h ⟨by rw [e], by rw [e]⟩)
theorem pairs_all : ∀ n : Fin 6, impl_allPairs.f 100 (n.val : Int) = some (pairsP n.val) := by decide +kernel
theorem allPairs_ev (n : Nat) (h : n ≤ 5) : Ev (fun k => impl_allPairs.f k (n : Int)) (pairsP n) := Ev.of (impl_allPairs.mono _) (pairs_all ⟨n, by omega⟩)
theorem pairs_len : ∀ n : Fin 6, (pairsP n.val).length ≤ 10 := by decide +kernel
theorem clone16 (l : List Int) (h : l.length ≤ 100) : impl_news_uint16.f l = some l := by
  unfold impl_news_uint16.f
  simp only [Option.bind_some, List.nil_append, List.length_nil]
  rw [if_pos (by omega)]
theorem cloneC (l : List S68) (h : l.length ≤ 100) : impl_Call.f l = some l := by
  unfold impl_Call.f
  simp only [Option.bind_some, List.nil_append, List.length_nil]
  rw [if_pos (by omega)]
def stepI (n m : Nat) (l : List Int) (c : S68) : Option (List S68) := if l.getD c.f0.toNat 0 = l.getD c.f1.toNat 0 then none else (planI n m (meetP l c)).map (c :: ·)
def outI (list : List S68) (o : Option (List S68)) : List S68 × Bool := match o with
  | some p => (list ++ p, true)
  | none => ([], false)
def resI (n m : Nat) (list : List S68) (l : List Int) : List S68 × Bool := match planI n m l with
  | some p => (list ++ p, true)
  | none => (if m = 0 then list else [], false)
theorem lit_l0 (n : Nat) (hn : n ≤ 5) (m : Nat) (l : List Int) (hs : SmallP n l) (list : List S68) (hl : list.length + (m + 1) ≤ 100)
    (ih : ∀ (l' : List Int) (list' : List S68), SmallP n l' → list'.length + m ≤ 100 → Ev (fun k => impl_FirstPlanLit1.f k list' l' ((list'.length + m : Nat) : Int) (n : Int) 0) (resI n m list' l')) :
    ∀ (d i : Nat), i + d = (pairsP n).length → Ev (fun k => impl_FirstPlanLit1.l0 k list l ((list.length + (m + 1) : Nat) : Int) (n : Int) 0 (pairsP n) ((pairsP n).length : Int) (i : Int)) (outI list (((pairsP n).drop i).findSome? (stepI n m l))) := by
  intro d
  have hpl := pairs_len ⟨n, by omega⟩
  have hlen := hs.1
  induction d with
  | zero =>
    intro i hi
    have hi' : ¬ (i : Int) < ((pairsP n).length : Int) := by omega
    rw [List.drop_eq_nil_of_le (by omega)]
    exact Ev.step (fun k => by simp only [impl_FirstPlanLit1.l0, if_neg hi'] <;> exact rfl) (ev_now _)
  | succ d ihd =>
    intro i hi
    have hlt : i < (pairsP n).length := by omega
    have q1 : (i : Int) < ((pairsP n).length : Int) := by omega
    have q2 : (0 : Int) ≤ (i : Int) := by omega
    have ei := w64 (show -9223372036854775808 ≤ (i : Int) + 1 by omega) (by simp at hpl; omega)
    have hm : (pairsP n).getD i z68 ∈ pairsP n := by rw [getD_at _ _ _ hlt]; exact List.getElem_mem hlt
    have er : rd_T68 (pairsP n) (i : Int) = (pairsP n).getD i z68 := rfl
    rw [drop_at _ i z68 hlt, List.findSome?_cons]
    generalize (pairsP n).getD i z68 = c at hm er ⊢
    obtain ⟨h0, h1, h2⟩ := pairsP_mem hm
    have hc : isCallB n c.f0 c.f1 = true := by simp [isCallB, h0, h1, h2]
    have p1 : c.f0 < (l.length : Int) := by omega
    have p2 : (0 : Int) ≤ c.f1 := by omega
    have p3 : c.f1 < (l.length : Int) := by omega
    have hn1 := ihd (i + 1) (by omega)
    have e0 : rd l c.f0 = l.getD c.f0.toNat 0 := rfl
    have e1 : rd l c.f1 = l.getD c.f1.toNat 0 := rfl
    by_cases hq : l.getD c.f0.toNat 0 = l.getD c.f1.toNat 0
    · have hq' : rd l c.f0 = rd l c.f1 := by rw [e0, e1]; exact hq
      rw [stepI, if_pos hq]
      refine Ev.step (fun k => by simp only [impl_FirstPlanLit1.l0, if_pos q1, if_pos q2, er, if_pos h0, if_pos p1, if_pos p2, if_pos p3, if_pos hq', ei] <;> exact rfl) ?_
      exact hn1
    · have hq' : ¬ rd l c.f0 = rd l c.f1 := by rw [e0, e1]; exact hq
      have hmf := meet_f (by omega : n ≤ 10) hs c hc
      have q3 : list.length + ([(⟨c.f0, c.f1⟩ : S68)] : List S68).length < 8796093022208 := by simp; omega
      have hih := ih (meetP l c) (list ++ [⟨c.f0, c.f1⟩]) (smallP_meet hs c hc) (by simp; omega)
      have em : (((list ++ [(⟨c.f0, c.f1⟩ : S68)]).length + m : Nat) : Int) = ((list.length + (m + 1) : Nat) : Int) := by simp; omega
      rw [em] at hih
      rw [stepI, if_neg hq]
      refine Ev.step (fun k => by simp only [impl_FirstPlanLit1.l0, if_pos q1, if_pos q2, er, if_pos h0, if_pos p1, if_pos p2, if_pos p3, if_neg hq', clone16 l (by omega), cloneC list (by omega), hmf, Option.bind_some, if_pos q3, ei] <;> exact rfl) ?_
      refine Ev.bind hih ?_
      unfold resI
      cases hp : planI n m (meetP l c) with
      | some p =>
        simp only [if_true, Option.map_some]
        have e : outI list (some (c :: p)) = (list ++ [c] ++ p, true) := by simp [outI]
        rw [e]
        exact ev_now _
      | none =>
        simp only [Bool.false_eq_true, if_false, Option.map_none]
        exact hn1
theorem lit_ev (n : Nat) (hn : n ≤ 5) : ∀ (m : Nat) (l : List Int) (list : List S68), SmallP n l → list.length + m ≤ 100 → Ev (fun k => impl_FirstPlanLit1.f k list l ((list.length + m : Nat) : Int) (n : Int) 0) (resI n m list l) := by
  intro m
  induction m with
  | zero =>
    intro l list hs hl
    have q : (list.length : Int) = ((list.length + 0 : Nat) : Int) := by omega
    refine Ev.step (fun k => by simp only [impl_FirstPlanLit1.f, if_pos q] <;> exact rfl) ?_
    refine Ev.bind (allKnow_ev (by omega : n ≤ 10) hs) ?_
    unfold resI planI
    cases allP n l with
    | true => simpa using ev_now _
    | false => simpa using ev_now _
  | succ m ih =>
    intro l list hs hl
    have q : ¬ (list.length : Int) = ((list.length + (m + 1) : Nat) : Int) := by omega
    refine Ev.step (fun k => by simp only [impl_FirstPlanLit1.f, if_neg q] <;> exact rfl) ?_
    refine Ev.bind (allPairs_ev n hn) ?_
    have := lit_l0 n hn m l hs list hl ih (pairsP n).length 0 (Nat.zero_add _)
    rw [List.drop_zero] at this
    have e : resI n (m + 1) list l = outI list ((pairsP n).findSome? (stepI n m l)) := by
      unfold resI
      rw [planI]
      show _ = outI list ((pairsP n).findSome? (stepI n m l))
      have : (pairsP n).findSome? (fun c => if l.getD c.f0.toNat 0 = l.getD c.f1.toNat 0 then none else (planI n m (meetP l c)).map (c :: ·)) = (pairsP n).findSome? (stepI n m l) := rfl
      rw [this]
      cases (pairsP n).findSome? (stepI n m l) with
      | some p => rfl
      | none => rfl
    rw [e]
    exact this
/-! the reference's search, run -/
def prB (n a : Nat) : Nat → Nat → List S68
  | 0, _ => []
  | d + 1, b => ⟨(a : Int), (b : Int)⟩ :: prB n a d (b + 1)
def prA (n : Nat) : Nat → Nat → List S68
  | 0, _ => []
  | d + 1, a => prB n a (n - (a + 1)) (a + 1) ++ prA n d (a + 1)
theorem pairs_pr : ∀ n : Fin 6, prA n.val n.val 0 = pairsP n.val := by decide +kernel
def toS (o : Option (List S68)) : List S68 × Bool := match o with
  | some p => (p, true)
  | none => ([], false)
def stepS (n m : Nat) (l : List Int) (c : S68) : Option (List S68) := (planS n m (meetP l c)).map (c :: ·)
theorem planS_len (n : Nat) : ∀ (m : Nat) (l : List Int) (p : List S68), planS n m l = some p → p.length = m
  | 0, l, p, h => by
    rw [planS] at h
    split at h
    · injection h with h; rw [← h]; rfl
    · cases h
  | m + 1, l, p, h => by
    rw [planS] at h
    split at h
    · cases h
    · split at h
      · cases h
      · obtain ⟨c, _, h2⟩ := List.exists_of_findSome?_eq_some h
        obtain ⟨q, hq, rfl⟩ := Option.map_eq_some_iff.1 h2
        rw [List.length_cons, planS_len n m _ q hq]
theorem search_l2 (n : Nat) (hn : n ≤ 5) (m : Nat) (hm : m ≤ 50) (l : List Int) (hs : SmallP n l) (a : Nat) (rest : List S68)
    (ih : ∀ l' : List Int, SmallP n l' → Ev (fun k => spec_caSearch.f k l' (m : Int)) (toS (planS n m l')))
    (hr : Ev (fun k => spec_caSearch.l1 k l ((m + 1 : Nat) : Int) (n : Int) ((a + 1 : Nat) : Int)) (toS (rest.findSome? (stepS n m l)))) :
    ∀ (d b : Nat), b + d = n → a < b → Ev (fun k => spec_caSearch.l2 k l ((m + 1 : Nat) : Int) (a : Int) (b : Int) (n : Int) (a : Int)) (toS ((prB n a d b ++ rest).findSome? (stepS n m l))) := by
  have hlen := hs.1
  intro d
  have ea := w64 (show -9223372036854775808 ≤ (a : Int) + 1 by omega)
  induction d with
  | zero =>
    intro b hb hab
    have hb' : ¬ (b : Int) < (l.length : Int) := by omega
    refine Ev.step (fun k => by simp only [spec_caSearch.l2, if_neg hb', ea (by omega)] <;> exact rfl) ?_
    exact hr
  | succ d ihd =>
    intro b hb hab
    have hb' : (b : Int) < (l.length : Int) := by omega
    have eb := w64 (show -9223372036854775808 ≤ (b : Int) + 1 by omega) (by omega)
    have em : wrap64 (((m + 1 : Nat) : Int) - 1) = (m : Int) := by rw [w64 (by omega) (by omega)]; omega
    have hc : isCallB n (⟨(a : Int), (b : Int)⟩ : S68).f0 (⟨(a : Int), (b : Int)⟩ : S68).f1 = true := by simp [isCallB]; omega
    have hmk := caMake_f (by omega : n ≤ 10) hs ⟨(a : Int), (b : Int)⟩ hc
    have hih := ih _ (smallP_meet hs ⟨(a : Int), (b : Int)⟩ hc)
    have hn1 := ihd (b + 1) (by omega) (by omega)
    rw [prB, List.cons_append, List.findSome?_cons]
    have hmk' : spec_caMake.f l (a : Int) (b : Int) = some (meetP l ⟨(a : Int), (b : Int)⟩) := hmk
    refine Ev.step (fun k => by simp only [spec_caSearch.l2, if_pos hb', hmk', Option.bind_some, em, eb] <;> exact rfl) ?_
    refine Ev.bind hih ?_
    rw [stepS]
    cases hp : planS n m (meetP l ⟨(a : Int), (b : Int)⟩) with
    | some p =>
      have hpl := planS_len n m _ p hp
      have q : ([(⟨(a : Int), (b : Int)⟩ : S68)] : List S68).length + p.length < 8796093022208 := by simp; omega
      rw [show toS (some p) = (p, true) from rfl]
      simp only [Option.map_some, if_true, Option.bind_some, if_pos q]
      exact ev_now _
    | none =>
      simp only [toS, Option.map_none, Bool.false_eq_true, if_false]
      exact hn1
theorem search_l1 (n : Nat) (hn : n ≤ 5) (m : Nat) (hm : m ≤ 50) (l : List Int) (hs : SmallP n l)
    (ih : ∀ l' : List Int, SmallP n l' → Ev (fun k => spec_caSearch.f k l' (m : Int)) (toS (planS n m l'))) :
    ∀ (d a : Nat), a + d = n → Ev (fun k => spec_caSearch.l1 k l ((m + 1 : Nat) : Int) (n : Int) (a : Int)) (toS ((prA n d a).findSome? (stepS n m l))) := by
  intro d
  induction d with
  | zero =>
    intro a ha
    have ha' : ¬ (a : Int) < (n : Int) := by omega
    exact Ev.step (fun k => by simp only [spec_caSearch.l1, if_neg ha'] <;> exact rfl) (ev_now _)
  | succ d ihd =>
    intro a ha
    have ha' : (a : Int) < (n : Int) := by omega
    have ea := w64 (show -9223372036854775808 ≤ (a : Int) + 1 by omega) (by omega)
    refine Ev.step (fun k => by simp only [spec_caSearch.l1, if_pos ha', ea] <;> exact rfl) ?_
    have := search_l2 n hn m hm l hs a (prA n d (a + 1)) ih (ihd (a + 1) (by omega)) (n - (a + 1)) (a + 1) (by omega) (by omega)
    exact this
theorem search_l0 (n : Nat) (hn : n ≤ 5) (h1n : 1 ≤ n) (m : Nat) (hm : m ≤ 50) (l : List Int) (hs : SmallP n l) (R : List S68 × Bool)
    (h1 : missP n l > 2 * m → R = ([], false)) (h2 : ¬ missP n l > 2 * m → Ev (fun k => spec_caSearch.l1 k l (m : Int) (n : Int) 0) R) :
    ∀ (d i a : Nat), i + d = l.length → a ≤ i → a + missP n (l.drop i) = missP n l → Ev (fun k => spec_caSearch.l0 k l (m : Int) (a : Int) l (l.length : Int) (i : Int)) R := by
  have hlen := hs.1
  intro d
  have e2 : wrap64 (2 * (m : Int)) = ((2 * m : Nat) : Int) := by rw [w64 (by omega) (by omega)]; omega
  have e3 : wrap64 (shl .i64 1 (l.length : Int) - 1) = ((2 ^ n - 1 : Nat) : Int) := by
    rw [shl_i64_at _ (by omega) (by omega), show ((l.length : Int)).toNat = n by omega]
    have : 1 ≤ 2 ^ n := Nat.one_le_two_pow
    have h32 : 2 ^ n ≤ 2 ^ 5 := Nat.pow_le_pow_right (by omega) hn
    rw [w64 (by omega) (by omega)]
    omega
  have hmiss : ∀ l, missP n l = l.countP (fun x => x != ((2 ^ n - 1 : Nat) : Int)) := fun _ => rfl
  generalize ((2 ^ n - 1 : Nat) : Int) = T at hmiss e3
  have E3 := Aside0.mk e3
  clear e3
  induction d with
  | zero =>
    intro i a hi ha hf
    have hi' : ¬ (i : Int) < (l.length : Int) := by omega
    rw [List.drop_eq_nil_of_le (by omega)] at hf
    have hz : missP n ([] : List Int) = 0 := rfl
    by_cases hq : missP n l > 2 * m
    · have hq' : (a : Int) > ((2 * m : Nat) : Int) := by omega
      rw [h1 hq]
      exact Ev.step (fun k => by simp only [spec_caSearch.l0, if_neg hi', e2, if_pos hq'] <;> exact rfl) (ev_now _)
    · have hq' : ¬ (a : Int) > ((2 * m : Nat) : Int) := by omega
      have h3 := h2 hq
      rw [← hlen] at h3
      exact Ev.step (fun k => by simp only [spec_caSearch.l0, if_neg hi', e2, if_neg hq'] <;> exact rfl) h3
  | succ d ih =>
    intro i a hi ha hf
    have hlt : i < l.length := by omega
    have q1 : (i : Int) < (l.length : Int) := by omega
    have q2 : (0 : Int) ≤ (i : Int) := by omega
    have ei := w64 (show -9223372036854775808 ≤ (i : Int) + 1 by omega) (by omega)
    have ea := w64 (show -9223372036854775808 ≤ (a : Int) + 1 by omega) (by omega)
    have er : rd l (i : Int) = l.getD i 0 := rfl
    rw [drop_at l i 0 hlt, hmiss (_ :: _), List.countP_cons, ← hmiss (l.drop (i + 1))] at hf
    by_cases hq : l.getD i 0 = T
    · have hq' : rd l (i : Int) = T := hq
      refine Ev.step (fun k => by simp only [spec_caSearch.l0, if_pos q1, if_pos q2, E3.out, if_pos hq', ei] <;> exact rfl) ?_
      have hb : (l.getD i 0 != T) = false := by rw [hq]; simp
      rw [hb, if_neg (by decide), Nat.add_zero] at hf
      clear ei ea er hb hq' hq
      exact ih (i + 1) a (by omega) (by omega) hf
    · have hq' : ¬ rd l (i : Int) = T := hq
      refine Ev.step (fun k => by simp only [spec_caSearch.l0, if_pos q1, if_pos q2, E3.out, if_neg hq', ei, ea] <;> exact rfl) ?_
      have hb : (l.getD i 0 != T) = true := by simpa using hq
      rw [hb, if_pos rfl] at hf
      clear ei ea er hb hq' hq
      exact ih (i + 1) (a + 1) (by omega) (by omega) (by omega)
theorem search_ev (n : Nat) (hn : n ≤ 5) (h1n : 1 ≤ n) : ∀ (m : Nat) (l : List Int), m ≤ 50 → SmallP n l → Ev (fun k => spec_caSearch.f k l (m : Int)) (toS (planS n m l)) := by
  intro m
  induction m with
  | zero =>
    intro l hm hs
    rw [planS]
    cases ha : allP n l with
    | true =>
      refine Ev.step (fun k => by simp only [spec_caSearch.f] <;> exact rfl) (Ev.bind (caAll_ev (by omega : n ≤ 10) hs) ?_)
      simp only [ha, if_true]
      exact ev_now _
    | false =>
      refine Ev.step (fun k => by simp only [spec_caSearch.f] <;> exact rfl) (Ev.bind (caAll_ev (by omega : n ≤ 10) hs) ?_)
      simp only [ha, Bool.false_eq_true, if_false]
      have hpos : missP n l > 2 * 0 := by
        rcases Nat.eq_zero_or_pos (missP n l) with h | h
        · exfalso
          have : allP n l = true := by
            rw [allP, List.all_eq_true]
            intro x hx
            have h2 := List.countP_eq_zero.1 h x hx
            simpa using h2
          rw [this] at ha; cases ha
        · omega
      exact search_l0 n hn h1n 0 (by omega) l hs ([], false) (fun _ => rfl) (fun h => absurd hpos h) l.length 0 0 (by omega) (by omega) (by rw [List.drop_zero, Nat.zero_add])
  | succ m ih =>
    intro l hm hs
    rw [planS]
    refine Ev.step (fun k => by simp only [spec_caSearch.f] <;> exact rfl) (Ev.bind (caAll_ev (by omega : n ≤ 10) hs) ?_)
    cases ha : allP n l with
    | true =>
      have e : (((m + 1 : Nat) : Int) == 0) = false := beq_eq_false_iff_ne.2 (by omega)
      simp only [if_true, e]
      exact ev_now _
    | false =>
      simp only [Bool.false_eq_true, if_false]
      refine search_l0 n hn h1n (m + 1) hm l hs _ (fun h => by rw [if_pos h]; rfl) (fun h => ?_) l.length 0 0 (by omega) (by omega) (by rw [List.drop_zero, Nat.zero_add])
      rw [if_neg h]
      have := search_l1 n hn m (by omega) l hs (fun l' h' => ih l' (by omega) h') n 0 (by omega)
      rw [pairs_pr ⟨n, by omega⟩] at this
      exact this

def fewP (n : Nat) : Nat := if n = 1 then 0 else if n = 2 then 1 else if n = 3 then 3 else 2 * n - 4
theorem few_all : ∀ n : Fin 6, 1 ≤ n.val → impl_fewestCalls.f (n.val : Int) = some ((fewP n.val : Nat) : Int) ∧ spec_caFew.f (n.val : Int) = some ((fewP n.val : Nat) : Int) ∧ fewP n.val ≤ 6 := by decide +kernel
theorem min_all : ∀ n : Fin 6, 1 ≤ n.val → ∀ m' : Fin 6, fewP n.val = m'.val + 1 → solC n.val m'.val (startP n.val) = false := by decide +kernel
def planOf : Nat → List S68
  | 2 => [⟨0, 1⟩]
  | 3 => [⟨0, 1⟩, ⟨0, 2⟩, ⟨0, 1⟩]
  | 4 => [⟨0, 1⟩, ⟨2, 3⟩, ⟨0, 2⟩, ⟨1, 3⟩]
  | 5 => [⟨0, 4⟩, ⟨0, 1⟩, ⟨2, 3⟩, ⟨0, 2⟩, ⟨1, 3⟩, ⟨0, 4⟩]
  | _ => []
theorem plan_all : ∀ n : Fin 6, 1 ≤ n.val → (planOf n.val).length = fewP n.val ∧ follows n.val (planOf n.val) (startP n.val) = true := by decide +kernel
def bestP (n : Nat) : List S68 := (planI n (fewP n) (startP n)).getD []
theorem best_some (n : Nat) (h1 : 1 ≤ n) (h2 : n ≤ 5) : planI n (fewP n) (startP n) = some (bestP n) := by
  obtain ⟨h3, h4⟩ := plan_all ⟨n, by omega⟩ h1
  have := follows_plan n _ _ h4
  simp only at h3
  rw [h3] at this
  obtain ⟨p, hp⟩ := Option.isSome_iff_exists.1 this
  rw [bestP, hp]; rfl
theorem best_spec (n : Nat) (h1 : 1 ≤ n) (h2 : n ≤ 5) : planS n (fewP n) (startP n) = some (bestP n) := by
  rw [← plan_eq n (fewP n) (startP n) (smallP_start n) ?_]
  · exact best_some n h1 h2
  · intro m' e
    rw [Bool.eq_false_iff]
    intro h
    have h3 := solB_C n m' _ h
    have h4 := (few_all ⟨n, by omega⟩ h1).2.2
    rw [min_all ⟨n, by omega⟩ h1 ⟨m', by simp only at h4; omega⟩ e] at h3
    cases h3
def resP (n : Int) : List S68 × Bool := if 1 ≤ n ∧ n ≤ 5 then (bestP n.toNat, true) else ([], false)
theorem resP_length (n : Int) : (resP n).1.length ≤ 1048576 := by
  unfold resP
  split
  · rename_i h
    have h1 := planS_len _ _ _ _ (best_spec n.toNat (by omega) (by omega))
    have h4 := (few_all ⟨n.toNat, by omega⟩ (by simp; omega)).2.2
    simp only at h4
    show (bestP n.toNat).length ≤ _
    omega
  · exact Nat.zero_le _
theorem spec_ev (n : Int) : Ev (fun k => spec_FirstPlan.f k n) (resP n) := by
  unfold spec_FirstPlan.f resP spec_l1In.f
  by_cases h1 : 1 ≤ n
  · by_cases h2 : n ≤ 5
    · obtain ⟨m, rfl⟩ : ∃ m : Nat, n = (m : Int) := ⟨n.toNat, by omega⟩
      simp only [h1, h2, decide_true, if_true, and_self, Option.bind_some]
      refine Ev.bind (caStart_ev (m : Int) h1 (by omega)) ?_
      have hf := (few_all ⟨m, by omega⟩ (by simp; omega))
      simp only at hf
      rw [Int.toNat_natCast]
      simp only [hf.2.1, Option.bind_some]
      refine Ev.bind (search_ev m (by omega) (by omega) (fewP m) (startP m) (by omega) (smallP_start m)) ?_
      rw [best_spec m (by omega) (by omega)]
      exact ev_now _
    · simpa [h1, h2] using ev_now _
  · simpa [h1] using ev_now _
theorem impl_ev (n : Int) : Ev (fun k => impl_FirstPlan.f k n) (resP n) := by
  unfold impl_FirstPlan.f resP impl_within.f
  by_cases h1 : 1 ≤ n
  · by_cases h2 : n ≤ 5
    · obtain ⟨m, rfl⟩ : ∃ m : Nat, n = (m : Int) := ⟨n.toNat, by omega⟩
      have hf := (few_all ⟨m, by omega⟩ (by simp; omega))
      simp only at hf
      simp only [h1, h2, decide_true, if_true, and_self, Option.bind_some, hf.1]
      refine Ev.bind (first_ev (m : Int) h1 (by omega)) ?_
      rw [Int.toNat_natCast]
      have := lit_ev m (by omega) (fewP m) (startP m) [] (smallP_start m) (by simp; omega)
      rw [List.length_nil, Nat.zero_add] at this
      refine Ev.bind this ?_
      unfold resI
      rw [best_some m (by omega) (by omega)]
      exact ev_now _
    · simpa [h1, h2] using ev_now _
  · simpa [h1] using ev_now _
theorem FnExactFirstPlan : laws_FnExactFirstPlan.Pure := by
  intro a0 w0
  apply Ev.rounds
  unfold laws_FnExactFirstPlan.f
  refine Ev.bind (spec_ev a0) ?_
  refine Ev.bind (impl_ev a0) ?_
  have hr : (resP a0).1.length ≤ 1048576 := resP_length a0
  have hm2 : ¬ (1 + 2 * (((resP a0).1.length : Nat) : Int)) < 0 := by omega
  refine Ev.bind (eqCallS_ev _ hr) ?_
  simp only [bne_self_eq_false, Bool.false_eq_true, if_false, if_true]
  refine Ev.step (fun k => by simp only [laws_FnExactFirstPlan.j0, Bool.false_eq_true, if_false] <;> exact rfl) ?_
  refine Ev.bind (markCallS_ev _ 1 hr (by omega) (by omega)) ?_
  refine Ev.bind (heldCallS_ev _ 1 hr (by omega) (by omega)) ?_
  simp only [if_neg hm2, if_true]
  refine Ev.bind (impl_ev a0) ?_
  refine Ev.bind (eqCallS_ev _ hr) ?_
  simp only [bne_self_eq_false, Bool.false_eq_true, if_false, if_true]
  refine Ev.step (fun k => by simp only [laws_FnExactFirstPlan.j1, Bool.false_eq_true, if_false] <;> exact rfl) ?_
  refine Ev.bind (heldCallS_ev _ 1 hr (by omega) (by omega)) ?_
  simp only [if_neg hm2, if_true]
  exact ev_now _

end Go.Proofs.Ytnlmalicpckfbaa.Pure
