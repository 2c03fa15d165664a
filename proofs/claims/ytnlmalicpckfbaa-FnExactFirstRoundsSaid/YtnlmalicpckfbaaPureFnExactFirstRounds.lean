/- The pure side of FnExactFirstRounds: program and reference agree at every argument. No condition beside what an argument is. -/
import Derived.Test.YtnlmalicpckfbaaPFnExactFirstRoundsx20
import Derived.Test.YtnlmalicpckfbaaPBase
import Derived.Test.YtnlmalicpckfbaaHBits
import Derived.Test.YtnlmalicpckfbaaHInv
import Derived.Test.YtnlmalicpckfbaaHGoes
namespace Go.Proofs.Ytnlmalicpckfbaa.Pure
open Go.RowKit Go.Proofs.Ytnlmalicpckfbaa.PFnExactFirstRounds Go.Proofs.YtnlmalicpckfbaaW.PrintWords Go.Proofs.YtnlmalicpckfbaaW.PrintLast Go.Proofs.YtnlmalicpckfbaaW.PrintMore Go.Proofs.Ytnlmalicpckfbaa.PB
set_option linter.unusedSimpArgs false
set_option linter.unusedVariables false
/-! calls: read, compared, marked -/
theorem eqCallS_l0 (a : List S68) (h : a.length ≤ 1048576) : ∀ (d : Nat) (i : Int), 0 ≤ i → i + d = a.length → Ev (fun k => laws_eqCallS.l0 k a a i) true := by
  intro d
  induction d with
  | zero =>
    intro i h0 hi
    refine ev_step (f := fun _ => some true) (fun k => ?_) (ev_now _)
    simp only [laws_eqCallS.l0]; rw [if_neg (by omega)]
  | succ d ih =>
    intro i h0 hi
    refine ev_step (f := fun k => laws_eqCallS.l0 k a a (i + 1)) (fun k => ?_) (ih _ (by omega) (by omega))
    simp only [laws_eqCallS.l0, laws_eqCall.f, if_true, Option.bind_some]
    rw [if_pos (by omega), if_pos h0, if_pos (by omega), w64 (by omega) (by omega)]
theorem eqCallS_ev (a : List S68) (h : a.length ≤ 1048576) : Ev (fun k => laws_eqCallS.f k a a) true := by
  unfold laws_eqCallS.f
  simp only [if_true]
  exact eqCallS_l0 a h a.length 0 (by omega) (by omega)

/-! calls: marked -/
def markedC (n : Nat) (m : Int) : List S68 := (List.range n).map fun i : Nat => ⟨m + 2 * (i : Int), m + 2 * (i : Int) + 1⟩
theorem markCallS_l0 (n : Nat) (m : Int) (hn : n ≤ 1048576) (hm : 0 ≤ m) (hm2 : m ≤ 1099511627776) : ∀ (d : Nat) (i : Int) (acc : List S68), 0 ≤ i → i + d = n → acc.length = n →
    (∀ j : Nat, (j : Int) < i → acc.getD j z68 = (markedC n m).getD j z68) → Ev (fun k => laws_markCallS.l0 k acc (m + 2 * i) i) (m + 2 * n, markedC n m) := by
  intro d
  induction d with
  | zero =>
    intro i acc h0 hi hl hacc
    refine ev_step (f := fun _ => some (m + 2 * i, acc)) (fun k => ?_) ?_
    · simp only [laws_markCallS.l0]; rw [if_neg (by omega)]
    · have e : acc = markedC n m := ext_getD z68 (by rw [hl]; simp [markedC]) (fun j hj => hacc j (by omega))
      rw [e, show m + 2 * i = m + 2 * n by omega]; exact ev_now _
  | succ d ih =>
    intro i acc h0 hi hl hacc
    refine ev_step (f := fun k => laws_markCallS.l0 k (acc.set i.toNat ⟨m + 2 * i, m + 2 * i + 1⟩) (m + 2 * (i + 1)) (i + 1)) (fun k => ?_) ?_
    · have hi' : i.toNat < acc.length := by omega
      simp only [laws_markCallS.l0, Option.bind_some, rd_T68]
      rw [if_pos (by omega), if_pos h0, w64 (by omega) (by omega), w64 (by omega) (by omega), w64 (by omega) (by omega), show m + 2 * i + 1 + 1 = m + 2 * (i + 1) by omega, List.set_set, getD_set _ _ _ _ _ hi']
      simp
    · refine ih (i + 1) _ (by omega) (by omega) (by simpa using hl) (fun j hj => ?_)
      rw [getD_set _ _ _ _ _ (by omega)]
      split
      · rename_i e
        subst e
        rw [markedC, getD_range_map _ _ _ _ (by omega), show ((i.toNat : Nat) : Int) = i by omega]
      · exact hacc j (by omega)
theorem markCallS_ev (l : List S68) (m : Int) (hn : l.length ≤ 1048576) (hm : 0 ≤ m) (hm2 : m ≤ 1099511627776) : Ev (fun k => laws_markCallS.f k l m) (m + 2 * (l.length : Int), markedC l.length m) := by
  unfold laws_markCallS.f
  have := markCallS_l0 l.length m hn hm hm2 l.length 0 l (by omega) (by omega) rfl (fun j hj => by omega)
  simpa using this

/-! calls: held -/
theorem heldCallS_l0 (n : Nat) (m : Int) (hn : n ≤ 1048576) (hm : 0 ≤ m) (hm2 : m ≤ 1099511627776) : ∀ (d : Nat) (i : Int), 0 ≤ i → i + d = n → Ev (fun k => laws_heldCallS.l0 k (markedC n m) (m + 2 * i) i) (m + 2 * n) := by
  intro d
  have hl : (markedC n m).length = n := by simp [markedC]
  induction d with
  | zero =>
    intro i h0 hi
    refine ev_step (f := fun _ => some (m + 2 * i)) (fun k => ?_) ?_
    · simp only [laws_heldCallS.l0]; rw [if_neg (by omega)]
    · rw [show m + 2 * i = m + 2 * n by omega]; exact ev_now _
  | succ d ih =>
    intro i h0 hi
    refine ev_step (f := fun k => laws_heldCallS.l0 k (markedC n m) (m + 2 * (i + 1)) (i + 1)) (fun k => ?_) (ih _ (by omega) (by omega))
    have e : rd_T68 (markedC n m) i = ⟨m + 2 * i, m + 2 * i + 1⟩ := by
      show (markedC n m).getD i.toNat z68 = _
      rw [markedC, getD_range_map _ _ _ _ (by omega), show ((i.toNat : Nat) : Int) = i by omega]
    simp only [laws_heldCallS.l0, e, if_true]
    rw [if_pos (by omega), if_pos h0, w64 (by omega) (by omega), w64 (by omega) (by omega), w64 (by omega) (by omega), if_pos rfl, show m + 2 * i + 1 + 1 = m + 2 * (i + 1) by omega]
theorem heldCallS_ev (n : Nat) (m : Int) (hn : n ≤ 1048576) (hm : 0 ≤ m) (hm2 : m ≤ 1099511627776) : Ev (fun k => laws_heldCallS.f k (markedC n m) m) (m + 2 * (n : Int)) := by
  unfold laws_heldCallS.f
  have := heldCallS_l0 n m hn hm hm2 n 0 (by omega) (by omega)
  simpa using this

/-! rows of rows: compared, marked -/
def totC : List (List S68) → Int
  | [] => 0
  | r :: rs => 2 * (r.length : Int) + totC rs
def markedRC : List (List S68) → Int → List (List S68)
  | [], _ => []
  | r :: rs, m => markedC r.length m :: markedRC rs (m + 2 * (r.length : Int))
def RowsC (l : List (List S68)) : Prop := l.length ≤ 1048576 ∧ ∀ r ∈ l, r.length ≤ 1048576
theorem totC_nonneg : ∀ (l : List (List S68)), 0 ≤ totC l
  | [] => Int.le_refl _
  | r :: rs => by have := totC_nonneg rs; simp only [totC]; omega
theorem totC_le (b : Nat) : ∀ (l : List (List S68)), (∀ r ∈ l, r.length ≤ b) → totC l ≤ 2 * (b : Int) * l.length
  | [], _ => by simp [totC]
  | r :: rs, h => by
    have h1 := totC_le b rs (fun x hx => h x (List.mem_cons_of_mem _ hx))
    have h2 := h r (List.mem_cons_self)
    have e : 2 * (b : Int) * ((r :: rs).length : Nat) = 2 * (b : Int) * (rs.length : Nat) + 2 * (b : Int) := by
      rw [List.length_cons, Int.natCast_succ, Int.mul_add, Int.mul_one]
    rw [e]
    simp only [totC]
    omega
theorem eqCallSS_l0 : ∀ (rest done : List (List S68)), done.length + rest.length ≤ 1048576 → (∀ r ∈ rest, r.length ≤ 1048576) →
    Ev (fun k => laws_eqCallSS.l0 k (done ++ rest) (done ++ rest) (done.length : Int)) true
  | [], done, h, _ => by
    refine ev_step (f := fun _ => some true) (fun k => ?_) (ev_now _)
    simp only [laws_eqCallSS.l0]
    rw [if_neg (by simp)]
  | r :: rest, done, h, hr => by
    simp only [List.length_cons] at h
    have e : rd_L2 (done ++ r :: rest) (done.length : Int) = r := by
      show (done ++ r :: rest).getD ((done.length : Int)).toNat [] = r
      rw [Int.toNat_natCast, getD_len]
    refine ev_step (f := fun k => (laws_eqCallS.f k r r).bind fun t => if t = true then laws_eqCallSS.l0 k (done ++ r :: rest) (done ++ r :: rest) ((done.length : Int) + 1) else some false) (fun k => ?_) ?_
    · simp only [laws_eqCallSS.l0, e]
      rw [if_pos (by rw [List.length_append, List.length_cons]; omega), if_pos (by omega), if_pos (by rw [List.length_append, List.length_cons]; omega), w64 (by omega) (by omega)]
    · refine Ev.bind (eqCallS_ev r (hr r (List.mem_cons_self))) ?_
      simp only [if_true]
      have := eqCallSS_l0 rest (done ++ [r]) (by rw [List.length_append, List.length_singleton]; omega) (fun x hx => hr x (List.mem_cons_of_mem _ hx))
      rw [List.append_assoc, List.singleton_append, List.length_append, List.length_singleton] at this
      simpa using this
theorem eqCallSS_ev (a : List (List S68)) (h : RowsC a) : Ev (fun k => laws_eqCallSS.f k a a) true := by
  unfold laws_eqCallSS.f
  simp only [if_true]
  have := eqCallSS_l0 a [] (by simpa using h.1) h.2
  simpa using this
theorem markCallSS_l0 : ∀ (rest done : List (List S68)) (m : Int), done.length + rest.length ≤ 1048576 → (∀ r ∈ rest, r.length ≤ 1048576) → 0 ≤ m → m + totC rest ≤ 1099511627776 →
    Ev (fun k => laws_markCallSS.l0 k (done ++ rest) m (done.length : Int)) (m + totC rest, done ++ markedRC rest m)
  | [], done, m, h, _, _, _ => by
    refine ev_step (f := fun _ => some (m, done ++ [])) (fun k => ?_) ?_
    · simp only [laws_markCallSS.l0]
      rw [if_neg (by simp)]
    · simp only [totC, Int.add_zero, markedRC]; exact ev_now _
  | r :: rest, done, m, h, hr, hm, hb => by
    simp only [List.length_cons] at h
    simp only [totC] at hb
    have hn := totC_nonneg rest
    refine ev_step (f := fun k => (laws_markCallS.f k r m).bind fun t => laws_markCallSS.l0 k ((done ++ r :: rest).set done.length t.2) t.1 ((done.length : Int) + 1)) (fun k => ?_) ?_
    · simp only [laws_markCallSS.l0, Int.toNat_natCast, getD_len]
      rw [if_pos (by rw [List.length_append, List.length_cons]; omega), if_pos (by omega), w64 (by omega) (by omega)]
    · refine Ev.bind (markCallS_ev r m (hr r (List.mem_cons_self)) hm (by omega)) ?_
      have := markCallSS_l0 rest (done ++ [markedC r.length m]) (m + 2 * (r.length : Int)) (by rw [List.length_append, List.length_singleton]; omega) (fun x hx => hr x (List.mem_cons_of_mem _ hx)) (by omega) (by omega)
      rw [List.append_assoc, List.singleton_append, List.length_append, List.length_singleton] at this
      simp only [set_len, totC, markedRC]
      rw [List.append_assoc, List.singleton_append, Int.add_assoc] at this
      simpa using this
theorem markCallSS_ev (l : List (List S68)) (m : Int) (h : RowsC l) (hm : 0 ≤ m) (hb : m + totC l ≤ 1099511627776) : Ev (fun k => laws_markCallSS.f k l m) (m + totC l, markedRC l m) := by
  unfold laws_markCallSS.f
  have := markCallSS_l0 l [] m (by simpa using h.1) h.2 hm hb
  simpa using this
theorem heldCallSS_l0 : ∀ (rest done : List (List S68)) (m : Int), done.length + rest.length ≤ 1048576 → (∀ r ∈ rest, r.length ≤ 1048576) → 0 ≤ m → m + totC rest ≤ 1099511627776 →
    Ev (fun k => laws_heldCallSS.l0 k (done ++ markedRC rest m) m (done.length : Int)) (m + totC rest)
  | [], done, m, h, _, _, _ => by
    show Ev (fun k => laws_heldCallSS.l0 k (done ++ []) m (done.length : Int)) (m + totC [])
    refine ev_step (f := fun _ => some m) (fun k => ?_) ?_
    · have hh : ¬ ((done.length : Int) < ((done ++ ([] : List (List S68))).length : Int)) := by simp
      simp only [laws_heldCallSS.l0]
      rw [if_neg hh]
    · simp only [totC, Int.add_zero]; exact ev_now _
  | r :: rest, done, m, h, hr, hm, hb => by
    simp only [List.length_cons] at h
    simp only [totC] at hb
    have hn := totC_nonneg rest
    have e : rd_L2 (done ++ markedC r.length m :: markedRC rest (m + 2 * (r.length : Int))) (done.length : Int) = markedC r.length m := by
      show (done ++ markedC r.length m :: markedRC rest (m + 2 * (r.length : Int))).getD ((done.length : Int)).toNat [] = _
      rw [Int.toNat_natCast, getD_len]
    show Ev (fun k => laws_heldCallSS.l0 k (done ++ markedC r.length m :: markedRC rest (m + 2 * (r.length : Int))) m (done.length : Int)) _
    refine ev_step (f := fun k => (laws_heldCallS.f k (markedC r.length m) m).bind fun t => if t < 0 then some (-1) else laws_heldCallSS.l0 k (done ++ markedC r.length m :: markedRC rest (m + 2 * (r.length : Int))) t ((done.length : Int) + 1)) (fun k => ?_) ?_
    · simp only [laws_heldCallSS.l0, e]
      rw [if_pos (by rw [List.length_append, List.length_cons]; omega), if_pos (by omega), w64 (by omega) (by omega)]
    · refine Ev.bind (heldCallS_ev r.length m (hr r (List.mem_cons_self)) hm (by omega)) ?_
      have hp : ¬ m + 2 * (r.length : Int) < 0 := by omega
      simp only [if_neg hp]
      have := heldCallSS_l0 rest (done ++ [markedC r.length m]) (m + 2 * (r.length : Int)) (by rw [List.length_append, List.length_singleton]; omega) (fun x hx => hr x (List.mem_cons_of_mem _ hx)) (by omega) (by omega)
      rw [List.append_assoc, List.singleton_append, List.length_append, List.length_singleton] at this
      simp only [totC]
      rw [Int.add_assoc] at this
      simpa using this
theorem heldCallSS_ev (l : List (List S68)) (m : Int) (h : RowsC l) (hm : 0 ≤ m) (hb : m + totC l ≤ 1099511627776) : Ev (fun k => laws_heldCallSS.f k (markedRC l m) m) (m + totC l) := by
  unfold laws_heldCallSS.f
  have := heldCallSS_l0 l [] m (by simpa using h.1) h.2 hm hb
  simpa using this
theorem rowsC_tot {l : List (List S68)} (h1 : l.length ≤ 1000) (h2 : ∀ r ∈ l, r.length ≤ 1048576) : RowsC l ∧ 1 + totC l ≤ 1099511627776 := by
  refine ⟨⟨by omega, h2⟩, ?_⟩
  have := totC_le 1048576 l h2
  omega

def isCallB (n a b : Int) : Bool := decide (0 ≤ a) && (decide (a < b) && decide (b < n))
/-! news: what friends know, as numbers below 2^n -/
def orI (a b : Int) : Int := ((a.toNat ||| b.toNat : Nat) : Int)
def startP (n : Nat) : List Int := (List.range n).map fun i => ((2 ^ i : Nat) : Int)
def SmallP (n : Nat) (l : List Int) : Prop := l.length = n ∧ ∀ x ∈ l, 0 ≤ x ∧ x < ((2 ^ n : Nat) : Int)
theorem smallP_at {n : Nat} {l : List Int} (h : SmallP n l) (i : Nat) (hi : i < n) : 0 ≤ l.getD i 0 ∧ l.getD i 0 < ((2 ^ n : Nat) : Int) := by
  have hl : i < l.length := by rw [h.1]; exact hi
  rw [getD_at l i 0 hl]
  exact h.2 _ (List.getElem_mem hl)
theorem smallP_1024 {n : Nat} {l : List Int} (h : SmallP n l) (hn : n ≤ 10) (i : Nat) (hi : i < n) : 0 ≤ l.getD i 0 ∧ l.getD i 0 < 1024 := by
  have h1 := smallP_at h i hi
  have h2 : 2 ^ n ≤ 2 ^ 10 := Nat.pow_le_pow_right (by omega) hn
  omega
theorem smallP_start (n : Nat) : SmallP n (startP n) := by
  refine ⟨by simp [startP], fun x hx => ?_⟩
  obtain ⟨i, hi, rfl⟩ := List.mem_map.1 hx
  have : i < n := by simpa using hi
  have h2 : 2 ^ i < 2 ^ n := Nat.pow_lt_pow_right (by omega) this
  have h3 : 0 < 2 ^ i := Nat.two_pow_pos i
  omega
theorem orI_lt {n : Nat} {a b : Int} (ha : 0 ≤ a ∧ a < ((2 ^ n : Nat) : Int)) (hb : 0 ≤ b ∧ b < ((2 ^ n : Nat) : Int)) : 0 ≤ orI a b ∧ orI a b < ((2 ^ n : Nat) : Int) := by
  have h := Nat.or_lt_two_pow (x := a.toNat) (y := b.toNat) (n := n) (by omega) (by omega)
  unfold orI
  omega
theorem smallP_set {n : Nat} {l : List Int} (h : SmallP n l) (i : Nat) (x : Int) (hx : 0 ≤ x ∧ x < ((2 ^ n : Nat) : Int)) : SmallP n (l.set i x) := by
  refine ⟨by rw [List.length_set, h.1], fun y hy => ?_⟩
  rcases List.mem_or_eq_of_mem_set hy with h1 | h1
  · exact h.2 y h1
  · rw [h1]; exact hx
theorem or_i64 {a b : Int} (ha : 0 ≤ a ∧ a < 1024) (hb : 0 ≤ b ∧ b < 1024) : Go.bits .or .i64 a b = orI a b := by
  have h := (bits_nat .i64 10 (by decide) (fun n h0 h1 => by rw [IntKind.wrap_i64]; omega) a.toNat b.toNat (by omega) (by omega)).2
  rw [show ((a.toNat : Nat) : Int) = a by omega, show ((b.toNat : Nat) : Int) = b by omega] at h
  exact h
theorem or_u16 {a b : Int} (ha : 0 ≤ a ∧ a < 1024) (hb : 0 ≤ b ∧ b < 1024) : Go.bits .or .u16 a b = orI a b := by
  have h := (bits_nat .u16 10 (by decide) (fun n h0 h1 => by simp [IntKind.wrap, IntKind.bits, IntKind.signed]; omega) a.toNat b.toNat (by omega) (by omega)).2
  rw [show ((a.toNat : Nat) : Int) = a by omega, show ((b.toNat : Nat) : Int) = b by omega] at h
  exact h
theorem shl_i64_all : ∀ i : Fin 11, shl .i64 1 (i.val : Int) = ((2 ^ i.val : Nat) : Int) := by decide +kernel
theorem shl_u16_all : ∀ i : Fin 11, shl .u16 1 (i.val : Int) = ((2 ^ i.val : Nat) : Int) := by decide +kernel
theorem shl_i64_at (i : Int) (h0 : 0 ≤ i) (h1 : i ≤ 10) : shl .i64 1 i = ((2 ^ i.toNat : Nat) : Int) := by
  have := shl_i64_all ⟨i.toNat, by omega⟩
  simp only [Int.toNat_of_nonneg h0] at this
  exact this
theorem shl_u16_at (i : Int) (h0 : 0 ≤ i) (h1 : i ≤ 10) : shl .u16 1 i = ((2 ^ i.toNat : Nat) : Int) := by
  have := shl_u16_all ⟨i.toNat, by omega⟩
  simp only [Int.toNat_of_nonneg h0] at this
  exact this
theorem startP_take (n i : Nat) (h : i < n) : (startP n).take (i + 1) = (startP n).take i ++ [((2 ^ i : Nat) : Int)] := by
  rw [take_at (startP n) i 0 (by simpa [startP] using h), startP, getD_range_map _ _ _ _ h]
theorem caStart_l0 (n : Nat) (hn : n ≤ 10) : ∀ (d : Nat) (i : Int), 0 ≤ i → i + d = n → Ev (fun k => spec_caStart.l0 k (n : Int) ((startP n).take i.toNat) i) (startP n) := by
  intro d
  have hl : (startP n).length = n := by simp [startP]
  induction d with
  | zero =>
    intro i h0 hi
    refine ev_step (f := fun _ => some ((startP n).take i.toNat)) (fun k => ?_) ?_
    · simp only [spec_caStart.l0]; rw [if_neg (by omega)]
    · rw [List.take_of_length_le (by omega)]; exact ev_now _
  | succ d ih =>
    intro i h0 hi
    refine ev_step (f := fun k => spec_caStart.l0 k (n : Int) ((startP n).take (i + 1).toNat) (i + 1)) (fun k => ?_) (ih _ (by omega) (by omega))
    simp only [spec_caStart.l0]
    rw [if_pos (by omega), if_pos h0, if_pos (by rw [List.length_take]; omega), w64 (by omega) (by omega), shl_i64_at i h0 (by omega), ← startP_take n i.toNat (by omega), show (i + 1).toNat = i.toNat + 1 by omega]
theorem caStart_ev (n : Int) (h1 : 1 ≤ n) (h2 : n ≤ 10) : Ev (fun k => spec_caStart.f k n) (startP n.toNat) := by
  have := caStart_l0 n.toNat (by omega) n.toNat 0 (by omega) (by omega)
  unfold spec_caStart.f
  simpa [show ((n.toNat : Nat) : Int) = n by omega] using this
theorem first_l0 (n : Nat) (hn : n ≤ 10) : ∀ (d : Nat) (i : Int), 0 ≤ i → i + d = n → Ev (fun k => impl_first.l0 k ((startP n).take i.toNat) (n : Int) i) (startP n) := by
  intro d
  have hl : (startP n).length = n := by simp [startP]
  induction d with
  | zero =>
    intro i h0 hi
    refine ev_step (f := fun _ => some ((startP n).take i.toNat)) (fun k => ?_) ?_
    · simp only [impl_first.l0]; rw [if_neg (by omega)]
    · rw [List.take_of_length_le (by omega)]; exact ev_now _
  | succ d ih =>
    intro i h0 hi
    refine ev_step (f := fun k => impl_first.l0 k ((startP n).take (i + 1).toNat) (n : Int) (i + 1)) (fun k => ?_) (ih _ (by omega) (by omega))
    simp only [impl_first.l0]
    rw [if_pos (by omega), if_pos h0, if_pos (by rw [List.length_take]; omega), w64 (by omega) (by omega), shl_u16_at i h0 (by omega), ← startP_take n i.toNat (by omega), show (i + 1).toNat = i.toNat + 1 by omega]
theorem first_ev (n : Int) (h1 : 1 ≤ n) (h2 : n ≤ 10) : Ev (fun k => impl_first.f k n) (startP n.toNat) := by
  have := first_l0 n.toNat (by omega) n.toNat 0 (by omega) (by omega)
  unfold impl_first.f
  simpa [show ((n.toNat : Nat) : Int) = n by omega] using this

/-! all know -/
theorem pop_all : ∀ n : Fin 11, ∀ x : Fin 1024, x.val < 2 ^ n.val → (Go.Proofs.Ytnlmalicpckfbaa.H.pop16 x.val ≤ n.val ∧ (Go.Proofs.Ytnlmalicpckfbaa.H.pop16 x.val = n.val ↔ x.val = 2 ^ n.val - 1)) := by decide +kernel
def popI (x : Int) : Nat := Go.Proofs.Ytnlmalicpckfbaa.H.pop16 x.toNat
theorem popI_le {n : Nat} (hn : n ≤ 10) {x : Int} (hx : 0 ≤ x ∧ x < ((2 ^ n : Nat) : Int)) : popI x ≤ n ∧ (popI x = n ↔ x = ((2 ^ n - 1 : Nat) : Int)) := by
  have h2 : 2 ^ n ≤ 2 ^ 10 := Nat.pow_le_pow_right (by omega) hn
  have h := pop_all ⟨n, by omega⟩ ⟨x.toNat, by omega⟩ (by show x.toNat < 2 ^ n; omega)
  have h' : Go.Proofs.Ytnlmalicpckfbaa.H.pop16 x.toNat ≤ n ∧ (Go.Proofs.Ytnlmalicpckfbaa.H.pop16 x.toNat = n ↔ x.toNat = 2 ^ n - 1) := h
  refine ⟨h'.1, h'.2.trans ⟨fun e => by omega, fun e => by omega⟩⟩
def sumP (l : List Int) : Nat := (l.map popI).sum
theorem sumP_le (n : Nat) : ∀ (l : List Int), (∀ x ∈ l, popI x ≤ n) → sumP l ≤ n * l.length ∧ (sumP l = n * l.length ↔ ∀ x ∈ l, popI x = n)
  | [], _ => by simp [sumP]
  | x :: l, h => by
    have ih := sumP_le n l (fun y hy => h y (List.mem_cons_of_mem _ hy))
    have hx := h x (List.mem_cons_self)
    have e : sumP (x :: l) = popI x + sumP l := by simp [sumP]
    rw [e, List.length_cons, Nat.mul_succ]
    refine ⟨by omega, ⟨fun hh => ?_, fun hh => ?_⟩⟩
    · intro y hy
      rcases List.mem_cons.1 hy with rfl | hy
      · omega
      · exact (ih.2.1 (by omega)) y hy
    · have h1 := hh x (List.mem_cons_self)
      have h2 := ih.2.2 (fun y hy => hh y (List.mem_cons_of_mem _ hy))
      omega
def allP (n : Nat) (l : List Int) : Bool := l.all fun x => x == ((2 ^ n - 1 : Nat) : Int)
theorem allP_sum {n : Nat} (hn : n ≤ 10) {l : List Int} (h : SmallP n l) : (((sumP l : Nat) : Int) == (n : Int) * (n : Int)) = allP n l := by
  have hp := fun x hx => popI_le hn (h.2 x hx)
  have hs := sumP_le n l (fun x hx => (hp x hx).1)
  rw [h.1] at hs
  rw [Bool.eq_iff_iff, beq_iff_eq, allP, List.all_eq_true]
  constructor
  · intro e x hx
    rw [beq_iff_eq]
    exact (hp x hx).2.1 (hs.2.1 (by exact_mod_cast e) x hx)
  · intro e
    have := hs.2.2 (fun x hx => (hp x hx).2.2 (by simpa using e x hx))
    exact_mod_cast this
theorem onesCount_f {x : Int} (hx : 0 ≤ x ∧ x < 1024) : bits_OnesCount16.f x = some ((popI x : Nat) : Int) := by
  unfold bits_OnesCount16.f
  rw [if_pos hx.1, if_pos (by omega)]
  rfl
theorem popI_le16 (x : Int) : popI x ≤ 16 := by
  have := List.countP_le_length (p := fun i => x.toNat.testBit i) (l := List.range 16)
  simpa [popI, Go.Proofs.Ytnlmalicpckfbaa.H.pop16] using this
theorem sumP_le16 (l : List Int) : sumP l ≤ 16 * l.length := (sumP_le 16 l (fun x _ => popI_le16 x)).1
theorem count_l0 {n : Nat} (hn : n ≤ 10) {l : List Int} (h : SmallP n l) : ∀ (d : Nat) (i : Int) (a : Nat), 0 ≤ i → i + d = l.length → a ≤ 16 * i.toNat → Ev (fun k => impl_news_count.l0 k (a : Int) l (l.length : Int) i) ((a + sumP (l.drop i.toNat) : Nat) : Int) := by
  intro d
  have hl := h.1
  induction d with
  | zero =>
    intro i a h0 hi ha
    refine ev_step (f := fun _ => some (a : Int)) (fun k => ?_) ?_
    · simp only [impl_news_count.l0]; rw [if_neg (by omega)]
    · rw [List.drop_eq_nil_of_le (by omega)]; exact ev_now _
  | succ d ih =>
    intro i a h0 hi ha
    have hd := drop_at l i.toNat 0 (by omega)
    have hp := popI_le16 (l.getD i.toNat 0)
    refine ev_step (f := fun k => impl_news_count.l0 k ((a + popI (l.getD i.toNat 0) : Nat) : Int) l (l.length : Int) (i + 1)) (fun k => ?_) ?_
    · simp only [impl_news_count.l0]
      rw [if_pos (by omega), if_pos h0, if_pos (by omega), onesCount_f (show 0 ≤ rd l i ∧ rd l i < 1024 from smallP_1024 h hn i.toNat (by omega))]
      simp only [Option.bind_some]
      rw [w64 (x := i + 1) (by omega) (by omega), show rd l i = l.getD i.toNat 0 from rfl, w64 (by omega) (by omega)]
      rfl
    · have := ih (i + 1) (a + popI (l.getD i.toNat 0)) (by omega) (by omega) (by omega)
      rw [show (i + 1).toNat = i.toNat + 1 by omega] at this
      rw [hd]
      have e : sumP (l.getD i.toNat 0 :: l.drop (i.toNat + 1)) = popI (l.getD i.toNat 0) + sumP (l.drop (i.toNat + 1)) := by simp [sumP]
      rw [e, ← Nat.add_assoc]
      exact this
theorem count_ev {n : Nat} (hn : n ≤ 10) {l : List Int} (h : SmallP n l) : Ev (fun k => impl_news_count.f k l) ((sumP l : Nat) : Int) := by
  have hl := h.1
  have := count_l0 hn h l.length 0 0 (by omega) (by omega) (by omega)
  unfold impl_news_count.f
  simpa using this

theorem allKnow_ev {n : Nat} (hn : n ≤ 10) {l : List Int} (h : SmallP n l) : Ev (fun k => impl_news_allKnow.f k l) (allP n l) := by
  have hl := h.1
  unfold impl_news_allKnow.f
  refine Ev.bind (count_ev hn h) ?_
  have e : (l.length : Int) * (l.length : Int) = (n : Int) * (n : Int) := by rw [hl]
  have hb : (n : Int) * (n : Int) ≤ 10 * 10 := Int.mul_le_mul (by omega) (by omega) (by omega) (by omega)
  have hb0 : 0 ≤ (n : Int) * (n : Int) := Int.mul_nonneg (by omega) (by omega)
  rw [e, w64 (by omega) (by omega), allP_sum hn h]
  exact ev_now _
theorem caAll_l0 {n : Nat} (hn : n ≤ 10) {l : List Int} (h : SmallP n l) : ∀ (d : Nat) (i : Int), 0 ≤ i → i + d = l.length → Ev (fun k => spec_caAll.l0 k l l (l.length : Int) i) (allP n (l.drop i.toNat)) := by
  intro d
  have hl := h.1
  have hw : wrap64 ((shl .i64 1 (l.length : Int)) - 1) = ((2 ^ n - 1 : Nat) : Int) := by
    have h2 : 2 ^ n ≤ 2 ^ 10 := Nat.pow_le_pow_right (by omega) hn
    have h3 : 0 < 2 ^ n := Nat.two_pow_pos n
    rw [shl_i64_at _ (by omega) (by omega), hl, show ((n : Int)).toNat = n by omega, w64 (by omega) (by omega)]
    omega
  induction d with
  | zero =>
    intro i h0 hi
    refine ev_step (f := fun _ => some true) (fun k => ?_) ?_
    · simp only [spec_caAll.l0]; rw [if_neg (by omega)]
    · rw [List.drop_eq_nil_of_le (by omega)]; exact ev_now _
  | succ d ih =>
    intro i h0 hi
    have hd := drop_at l i.toNat 0 (by omega)
    have ea : allP n (l.drop i.toNat) = ((l.getD i.toNat 0 == ((2 ^ n - 1 : Nat) : Int)) && allP n (l.drop (i.toNat + 1))) := by rw [hd]; rfl
    rw [ea]
    by_cases hq : l.getD i.toNat 0 = ((2 ^ n - 1 : Nat) : Int)
    · refine ev_step (f := fun k => spec_caAll.l0 k l l (l.length : Int) (i + 1)) (fun k => ?_) ?_
      · simp only [spec_caAll.l0, hw, show rd l i = l.getD i.toNat 0 from rfl]
        rw [if_pos (by omega), if_pos h0, if_pos (by omega), if_pos hq, w64 (by omega) (by omega)]
      · have := ih (i + 1) (by omega) (by omega)
        rw [show (i + 1).toNat = i.toNat + 1 by omega] at this
        rw [beq_iff_eq.2 hq, Bool.true_and]
        exact this
    · refine ev_step (f := fun _ => some false) (fun k => ?_) ?_
      · simp only [spec_caAll.l0, hw, show rd l i = l.getD i.toNat 0 from rfl]
        rw [if_pos (by omega), if_pos h0, if_pos (by omega), if_neg hq]
      · rw [beq_eq_false_iff_ne.2 hq, Bool.false_and]; exact ev_now _
theorem caAll_ev {n : Nat} (hn : n ≤ 10) {l : List Int} (h : SmallP n l) : Ev (fun k => spec_caAll.f k l) (allP n l) := by
  have hl := h.1
  have := caAll_l0 hn h l.length 0 (by omega) (by omega)
  unfold spec_caAll.f
  simpa using this

/-! news behind calls -/
def meetP (l : List Int) (c : S68) : List Int := (l.set c.f0.toNat (orI (l.getD c.f0.toNat 0) (l.getD c.f1.toNat 0))).set c.f1.toNat (orI (l.getD c.f0.toNat 0) (l.getD c.f1.toNat 0))
def playP (n : Nat) (cs : List S68) : List Int := cs.foldl meetP (startP n)
theorem isCallB_true {n a b : Int} (h : isCallB n a b = true) : 0 ≤ a ∧ a < b ∧ b < n := by simpa [isCallB] using h
theorem smallP_meet {n : Nat} {l : List Int} (h : SmallP n l) (c : S68) (hc : isCallB n c.f0 c.f1 = true) : SmallP n (meetP l c) := by
  obtain ⟨h1, h2, h3⟩ := isCallB_true hc
  have hx := orI_lt (smallP_at h c.f0.toNat (by omega)) (smallP_at h c.f1.toNat (by omega))
  exact smallP_set (smallP_set h _ _ hx) _ _ hx
theorem smallP_foldl {n : Nat} : ∀ (cs : List S68) (l : List Int), SmallP n l → (∀ c ∈ cs, isCallB n c.f0 c.f1 = true) → SmallP n (cs.foldl meetP l)
  | [], _, h, _ => h
  | c :: cs, _, h, hc => smallP_foldl cs _ (smallP_meet h c (hc c (List.mem_cons_self))) (fun d hd => hc d (List.mem_cons_of_mem _ hd))
theorem smallP_play {n : Nat} (cs : List S68) (hc : ∀ c ∈ cs, isCallB n c.f0 c.f1 = true) : SmallP n (playP n cs) := smallP_foldl cs _ (smallP_start n) hc
theorem caMake_f {n : Nat} (hn : n ≤ 10) {l : List Int} (h : SmallP n l) (c : S68) (hc : isCallB n c.f0 c.f1 = true) : spec_caMake.f l c.f0 c.f1 = some (meetP l c) := by
  obtain ⟨h1, h2, h3⟩ := isCallB_true hc
  have hl := h.1
  unfold spec_caMake.f spec_l1Own.f
  simp only [Option.bind_some, List.nil_append, List.length_nil]
  rw [if_pos (by omega)]
  simp only [Option.bind_some]
  rw [if_pos h1, if_pos (by omega), if_pos (by omega), if_pos (by omega), if_pos (by omega), if_pos (by omega)]
  rw [or_i64 (show 0 ≤ rd l c.f0 ∧ rd l c.f0 < 1024 from smallP_1024 h hn c.f0.toNat (by omega)) (show 0 ≤ rd l c.f1 ∧ rd l c.f1 < 1024 from smallP_1024 h hn c.f1.toNat (by omega))]
  rfl
theorem meet_f {n : Nat} (hn : n ≤ 10) {l : List Int} (h : SmallP n l) (c : S68) (hc : isCallB n c.f0 c.f1 = true) : impl_news_meet.f l c.f0 c.f1 = some (meetP l c) := by
  obtain ⟨h1, h2, h3⟩ := isCallB_true hc
  have hl := h.1
  unfold impl_news_meet.f
  rw [if_pos h1, if_pos (by omega), if_pos (by omega), if_pos (by omega)]
  rw [or_u16 (show 0 ≤ rd l c.f0 ∧ rd l c.f0 < 1024 from smallP_1024 h hn c.f0.toNat (by omega)) (show 0 ≤ rd l c.f1 ∧ rd l c.f1 < 1024 from smallP_1024 h hn c.f1.toNat (by omega))]
  rfl
/-! counted by the reference -/
theorem caBits_all : ∀ x : Fin 1024, spec_caBits.f 12 (x.val : Int) = some (((List.range 16).filter fun i => x.val.testBit i).map Int.ofNat) := by decide +kernel
def bitsP (x : Int) : List Int := ((List.range 16).filter fun i => x.toNat.testBit i).map Int.ofNat
theorem caBits_ev {x : Int} (hx : 0 ≤ x ∧ x < 1024) : Ev (fun k => spec_caBits.f k x) (bitsP x) := by
  have h := caBits_all ⟨x.toNat, by omega⟩
  simp only [Int.toNat_of_nonneg hx.1] at h
  exact Ev.of (spec_caBits.mono x) h

/-! the first of a list -/
theorem none_of {α : Type} {o : Option α} (h : ∀ p, o ≠ some p) : o = none := by cases o with
  | none => rfl
  | some p => exact absurd rfl (h p)
theorem findSome_congr {α β : Type} {f g : α → Option β} : ∀ (l : List α), (∀ a ∈ l, f a = g a) → l.findSome? f = l.findSome? g
  | [], _ => rfl
  | a :: l, h => by
    rw [List.findSome?_cons, List.findSome?_cons, h a (List.mem_cons_self), findSome_congr l (fun b hb => h b (List.mem_cons_of_mem _ hb))]

/-! rounds: calls of different friends -/
def touches (c : S68) (i : Nat) : Prop := c.f0.toNat = i ∨ c.f1.toNat = i
def freeB (c : S68) (r : List S68) : Bool := r.all fun d => c.f0 != d.f0 && (c.f0 != d.f1 && (c.f1 != d.f0 && c.f1 != d.f1))
def matchB (n : Nat) : List S68 → Bool
  | [] => true
  | c :: r => decide (0 ≤ c.f0) && (decide (c.f0 < c.f1) && (decide (c.f1 < (n : Int)) && (freeB c r && matchB n r)))
theorem matchB_cons {n : Nat} {c : S68} {r : List S68} (h : matchB n (c :: r) = true) : (0 ≤ c.f0 ∧ c.f0 < c.f1 ∧ c.f1 < (n : Int)) ∧ freeB c r = true ∧ matchB n r = true := by
  simp only [matchB, Bool.and_eq_true, decide_eq_true_eq] at h
  exact ⟨⟨h.1, h.2.1, h.2.2.1⟩, h.2.2.2.1, h.2.2.2.2⟩
theorem matchB_mem {n : Nat} : ∀ {r : List S68}, matchB n r = true → ∀ c ∈ r, 0 ≤ c.f0 ∧ c.f0 < c.f1 ∧ c.f1 < (n : Int)
  | [], _, c, hc => by cases hc
  | d :: r, h, c, hc => by
    obtain ⟨h1, _, h3⟩ := matchB_cons h
    rcases List.mem_cons.1 hc with rfl | hc
    · exact h1
    · exact matchB_mem h3 c hc
theorem meetP_len (l : List Int) (c : S68) : (meetP l c).length = l.length := by simp [meetP]
theorem meetP_off {l : List Int} {c : S68} {i : Nat} (hi : i < l.length) (h : ¬ touches c i) : (meetP l c).getD i 0 = l.getD i 0 := by
  unfold meetP
  rw [getD_set _ _ _ _ _ (by simpa using hi), if_neg (fun e => h (.inr e)), getD_set _ _ _ _ _ hi, if_neg (fun e => h (.inl e))]
theorem meetP_on {l : List Int} {c : S68} {i : Nat} (hi : i < l.length) (h : touches c i) : (meetP l c).getD i 0 = orI (l.getD c.f0.toNat 0) (l.getD c.f1.toNat 0) := by
  unfold meetP
  rw [getD_set _ _ _ _ _ (by simpa using hi)]
  split
  · rfl
  · rename_i e
    rw [getD_set _ _ _ _ _ hi, if_pos (h.resolve_right e)]
theorem fold_len : ∀ (r : List S68) (l : List Int), (r.foldl meetP l).length = l.length
  | [], _ => rfl
  | c :: r, l => by rw [List.foldl_cons, fold_len r, meetP_len]
theorem fold_off : ∀ (r : List S68) (l : List Int) (i : Nat), i < l.length → (∀ c ∈ r, ¬ touches c i) → (r.foldl meetP l).getD i 0 = l.getD i 0
  | [], _, _, _, _ => rfl
  | c :: r, l, i, hi, h => by
    rw [List.foldl_cons, fold_off r _ i (by rw [meetP_len]; exact hi) (fun d hd => h d (List.mem_cons_of_mem _ hd)), meetP_off hi (h c (List.mem_cons_self))]
theorem free_touch {n : Nat} {c : S68} {r : List S68} (h : matchB n (c :: r) = true) {i : Nat} (hc : touches c i) : ∀ d ∈ r, ¬ touches d i := by
  intro d hd ht
  obtain ⟨⟨a1, a2, a3⟩, hf, hm⟩ := matchB_cons h
  obtain ⟨b1, b2, b3⟩ := matchB_mem hm d hd
  have := List.all_eq_true.1 hf d hd
  simp only [Bool.and_eq_true, bne_iff_ne, ne_eq] at this
  unfold touches at hc ht
  omega
/-- What one friend knows behind a round: as before, or as before and what another one knew. -/
theorem fold_at {n : Nat} : ∀ (r : List S68) (l : List Int), matchB n r = true → l.length = n → ∀ (i : Nat), i < n →
    (r.foldl meetP l).getD i 0 = l.getD i 0 ∨ ∃ j, j < n ∧ (∃ c ∈ r, touches c j) ∧ ((r.foldl meetP l).getD i 0 = orI (l.getD i 0) (l.getD j 0) ∨ (r.foldl meetP l).getD i 0 = orI (l.getD j 0) (l.getD i 0))
  | [], _, _, _, _, _ => .inl rfl
  | c :: r, l, h, hl, i, hi => by
    obtain ⟨⟨a1, a2, a3⟩, hf, hm⟩ := matchB_cons h
    rw [List.foldl_cons]
    by_cases ht : touches c i
    · rw [fold_off r _ i (by rw [meetP_len, hl]; exact hi) (free_touch h ht), meetP_on (by omega) ht]
      rcases ht with e | e
      · exact .inr ⟨c.f1.toNat, by omega, ⟨c, List.mem_cons_self, .inr rfl⟩, .inl (by rw [e])⟩
      · exact .inr ⟨c.f0.toNat, by omega, ⟨c, List.mem_cons_self, .inl rfl⟩, .inr (by rw [e])⟩
    · rcases fold_at r (meetP l c) hm (by rw [meetP_len, hl]) i hi with h1 | ⟨j, hj, ⟨d, hd, hdj⟩, h1⟩
      · exact .inl (h1.trans (meetP_off (by omega) ht))
      · have hcj : ¬ touches c j := fun hh => free_touch h hh d hd hdj
        rw [meetP_off (by omega) ht, meetP_off (by omega) hcj] at h1
        exact .inr ⟨j, hj, ⟨d, List.mem_cons_of_mem _ hd, hdj⟩, h1⟩
theorem pop_or (a b : Int) : popI (orI a b) ≤ popI a + popI b := by
  unfold popI orI Go.Proofs.Ytnlmalicpckfbaa.H.pop16
  rw [show ((a.toNat ||| b.toNat : Nat) : Int).toNat = a.toNat ||| b.toNat by omega]
  generalize List.range 16 = r
  induction r with
  | nil => simp
  | cons i r ih =>
    simp only [List.countP_cons, Nat.testBit_or] at ih ⊢
    cases a.toNat.testBit i <;> cases b.toNat.testBit i <;> simp <;> omega
def mostP (l : List Int) : Nat := l.foldl (fun m x => max m (popI x)) 0
theorem mostP_le_aux : ∀ (l : List Int) (m : Nat), m ≤ l.foldl (fun m x => max m (popI x)) m ∧ ∀ x ∈ l, popI x ≤ l.foldl (fun m x => max m (popI x)) m
  | [], m => ⟨Nat.le_refl _, fun _ h => by cases h⟩
  | y :: l, m => by
    obtain ⟨h1, h2⟩ := mostP_le_aux l (max m (popI y))
    rw [List.foldl_cons]
    refine ⟨by omega, fun x hx => ?_⟩
    rcases List.mem_cons.1 hx with rfl | hx
    · omega
    · exact h2 x hx
theorem mostP_le {l : List Int} {x : Int} (h : x ∈ l) : popI x ≤ mostP l := (mostP_le_aux l 0).2 x h
theorem mostP_at {l : List Int} {i : Nat} (h : i < l.length) : popI (l.getD i 0) ≤ mostP l := mostP_le (by rw [getD_at _ _ _ h]; exact List.getElem_mem h)
theorem mostP_lub_aux (b : Nat) : ∀ (l : List Int) (m : Nat), m ≤ b → (∀ x ∈ l, popI x ≤ b) → l.foldl (fun m x => max m (popI x)) m ≤ b
  | [], m, h, _ => h
  | y :: l, m, h, hl => by
    rw [List.foldl_cons]
    have := hl y (List.mem_cons_self)
    exact mostP_lub_aux b l _ (by omega) (fun x hx => hl x (List.mem_cons_of_mem _ hx))
theorem mostP_lub {b : Nat} {l : List Int} (h : ∀ x ∈ l, popI x ≤ b) : mostP l ≤ b := mostP_lub_aux b l 0 (Nat.zero_le _) h
theorem round_pop {n : Nat} {r : List S68} {l : List Int} (h : matchB n r = true) (hl : l.length = n) (i : Nat) (hi : i < n) : popI ((r.foldl meetP l).getD i 0) ≤ popI (l.getD i 0) + mostP l := by
  rcases fold_at r l h hl i hi with e | ⟨j, hj, _, e | e⟩
  · rw [e]; omega
  · have h1 := pop_or (l.getD i 0) (l.getD j 0)
    have h2 := mostP_at (l := l) (i := j) (by omega)
    rw [e]; omega
  · have h1 := pop_or (l.getD j 0) (l.getD i 0)
    have h2 := mostP_at (l := l) (i := j) (by omega)
    rw [e]; omega
theorem round_most {n : Nat} {r : List S68} {l : List Int} (h : matchB n r = true) (hl : l.length = n) : mostP (r.foldl meetP l) ≤ 2 * mostP l := by
  refine mostP_lub (fun x hx => ?_)
  obtain ⟨i, hi, rfl⟩ := List.getElem_of_mem hx
  have hi' : i < n := by rw [fold_len, hl] at hi; exact hi
  have h1 := round_pop h hl i hi'
  have h2 := mostP_at (l := l) (i := i) (by omega)
  rw [getD_at _ _ _ hi] at h1
  omega
/-! the search for rounds -/
def roundI (n : Nat) (all : List (List S68)) : Nat → List Int → Option (List (List S68))
  | 0, l => if allP n l = true then some [] else none
  | m + 1, l => if mostP l * 2 ^ (m + 1) < n then none else all.findSome? fun r => (roundI n all m (r.foldl meetP l)).map (r :: ·)
def pruneS (n m : Nat) (l : List Int) : Bool := l.any fun x => decide (popI x ≠ n) && (decide (mostP l * 2 ^ m < n) || decide (popI x + mostP l * (2 ^ m - 1) < n))
def roundS (n : Nat) (all : List (List S68)) : Nat → List Int → Option (List (List S68))
  | 0, l => if allP n l = true then some [] else none
  | m + 1, l => if pruneS n (m + 1) l = true then none else all.findSome? fun r => (roundS n all m (r.foldl meetP l)).map (r :: ·)
/-- All know behind so many rounds of these. -/
def solR (n : Nat) (all : List (List S68)) : Nat → List Int → Prop
  | 0, l => allP n l = true
  | m + 1, l => ∃ r ∈ all, solR n all m (r.foldl meetP l)
theorem roundI_sol (n : Nat) (all : List (List S68)) : ∀ (m : Nat) (l : List Int) (p : List (List S68)), roundI n all m l = some p → solR n all m l
  | 0, l, p, h => by
    rw [roundI] at h
    by_cases ha : allP n l = true
    · exact ha
    · rw [if_neg ha] at h; cases h
  | m + 1, l, p, h => by
    rw [roundI] at h
    split at h
    · cases h
    · obtain ⟨c, hc, h2⟩ := List.exists_of_findSome?_eq_some h
      obtain ⟨q, hq, _⟩ := Option.map_eq_some_iff.1 h2
      exact ⟨c, hc, roundI_sol n all m _ q hq⟩
theorem roundS_sol (n : Nat) (all : List (List S68)) : ∀ (m : Nat) (l : List Int) (p : List (List S68)), roundS n all m l = some p → solR n all m l ∧ p.length = m
  | 0, l, p, h => by
    rw [roundS] at h
    by_cases ha : allP n l = true
    · rw [if_pos ha] at h; cases h; exact ⟨ha, rfl⟩
    · rw [if_neg ha] at h; cases h
  | m + 1, l, p, h => by
    rw [roundS] at h
    split at h
    · cases h
    · obtain ⟨c, hc, h2⟩ := List.exists_of_findSome?_eq_some h
      obtain ⟨q, hq, hp⟩ := Option.map_eq_some_iff.1 h2
      obtain ⟨h3, h4⟩ := roundS_sol n all m _ q hq
      refine ⟨⟨c, hc, h3⟩, ?_⟩
      rw [← hp, List.length_cons, h4]
theorem pow_split (m : Nat) : 2 ^ (m + 1) = 2 * 2 ^ m := by rw [Nat.pow_succ, Nat.mul_comm]
theorem sol_pop {n : Nat} (hn : popI ((2 ^ n - 1 : Nat) : Int) = n) {all : List (List S68)} (hall : ∀ r ∈ all, matchB n r = true) : ∀ (m : Nat) (l : List Int), l.length = n → solR n all m l → ∀ (i : Nat), i < n → n ≤ popI (l.getD i 0) + mostP l * (2 ^ m - 1)
  | 0, l, hl, h, i, hi => by
    have hx := List.all_eq_true.1 h (l.getD i 0) (by rw [getD_at _ _ _ (show i < l.length by omega)]; exact List.getElem_mem _)
    rw [beq_iff_eq] at hx
    rw [hx, hn]; omega
  | m + 1, l, hl, h, i, hi => by
    obtain ⟨r, hr, h⟩ := h
    have h1 := sol_pop hn hall m (r.foldl meetP l) (by rw [fold_len, hl]) h i hi
    have h2 := round_pop (hall r hr) hl i hi
    have h3 := round_most (hall r hr) hl
    have h4 : mostP (r.foldl meetP l) * (2 ^ m - 1) ≤ 2 * mostP l * (2 ^ m - 1) := Nat.mul_le_mul_right _ h3
    have h5 : 0 < 2 ^ m := Nat.two_pow_pos m
    have h6 : mostP l * (2 ^ (m + 1) - 1) = mostP l + 2 * mostP l * (2 ^ m - 1) := by
      rw [pow_split, show 2 * 2 ^ m - 1 = 1 + 2 * (2 ^ m - 1) by omega, Nat.mul_add, Nat.mul_one, ← Nat.mul_assoc, Nat.mul_comm (mostP l) 2]
    omega
theorem sol_most {n : Nat} (hn : popI ((2 ^ n - 1 : Nat) : Int) = n) (h0 : 0 < n) {all : List (List S68)} (hall : ∀ r ∈ all, matchB n r = true) (m : Nat) (l : List Int) (hl : l.length = n) (h : solR n all m l) : n ≤ mostP l * 2 ^ m := by
  have h1 := sol_pop hn hall m l hl h 0 h0
  have h2 := mostP_at (l := l) (i := 0) (by omega)
  have h3 : 0 < 2 ^ m := Nat.two_pow_pos m
  have h4 : mostP l * 2 ^ m = mostP l + mostP l * (2 ^ m - 1) := by
    rw [show 2 ^ m = 1 + (2 ^ m - 1) by omega, Nat.mul_add, Nat.mul_one]
    rw [show 1 + (2 ^ m - 1) - 1 = 2 ^ m - 1 by omega]
  omega
theorem round_eq {n : Nat} (hn : popI ((2 ^ n - 1 : Nat) : Int) = n) (h0 : 0 < n) {all : List (List S68)} (hall : ∀ r ∈ all, matchB n r = true) : ∀ (m : Nat) (l : List Int), l.length = n → roundI n all m l = roundS n all m l
  | 0, _, _ => rfl
  | m + 1, l, hl => by
    by_cases hs : solR n all (m + 1) l
    · have h1 := sol_most hn h0 hall (m + 1) l hl hs
      have h2 : pruneS n (m + 1) l = false := by
        rw [Bool.eq_false_iff]
        intro hp
        obtain ⟨x, hx, hq⟩ := List.any_eq_true.1 hp
        obtain ⟨i, hi, rfl⟩ := List.getElem_of_mem hx
        have h3 := sol_pop hn hall (m + 1) l hl hs i (by omega)
        rw [getD_at _ _ _ hi] at h3
        simp only [Bool.and_eq_true, Bool.or_eq_true, decide_eq_true_eq] at hq
        omega
      rw [roundI, roundS, if_neg (by omega), h2, if_neg (by simp)]
      exact findSome_congr _ (fun r _ => by rw [round_eq hn h0 hall m _ (by rw [fold_len, hl])])
    · rw [none_of fun p hp => hs (roundI_sol n all _ _ p hp), none_of fun p hp => hs (roundS_sol n all _ _ p hp).1]
def solRB (n : Nat) (all : List (List S68)) : Nat → List Int → Bool
  | 0, l => allP n l
  | m + 1, l => all.any fun r => solRB n all m (r.foldl meetP l)
theorem solRB_iff (n : Nat) (all : List (List S68)) : ∀ (m : Nat) (l : List Int), solRB n all m l = true ↔ solR n all m l
  | 0, _ => Iff.rfl
  | m + 1, l => by
    rw [solRB, List.any_eq_true]
    exact ⟨fun ⟨r, hr, h⟩ => ⟨r, hr, (solRB_iff n all m _).1 h⟩, fun ⟨r, hr, h⟩ => ⟨r, hr, (solRB_iff n all m _).2 h⟩⟩
theorem round_none {n : Nat} {all : List (List S68)} {m : Nat} {l : List Int} (h : solRB n all m l = false) : roundS n all m l = none :=
  none_of fun p hp => by have := (solRB_iff n all m l).2 (roundS_sol n all _ _ p hp).1; rw [h] at this; cases this
theorem round_some {n : Nat} (hn : popI ((2 ^ n - 1 : Nat) : Int) = n) (h0 : 0 < n) {all : List (List S68)} (hall : ∀ r ∈ all, matchB n r = true) : ∀ (m : Nat) (l : List Int), l.length = n → solR n all m l → ∃ p, roundS n all m l = some p
  | 0, l, hl, h => ⟨[], by rw [roundS, if_pos (show allP n l = true from h)]⟩
  | m + 1, l, hl, h => by
    rw [← Option.isSome_iff_exists, ← round_eq hn h0 hall _ _ hl]
    have h1 := sol_most hn h0 hall (m + 1) l hl h
    obtain ⟨r, hr, h2⟩ := h
    obtain ⟨p, hp⟩ := round_some hn h0 hall m _ (by rw [fold_len, hl]) h2
    rw [roundI, if_neg (by omega), List.findSome?_isSome_iff]
    refine ⟨r, hr, ?_⟩
    rw [round_eq hn h0 hall _ _ (by rw [fold_len, hl]), hp]
    rfl

/-! all rounds -/
instance : DecidableEq S68 := fun a b => if h : a.f0 = b.f0 ∧ a.f1 = b.f1 then isTrue (by cases a; cases b; simp at h; simp [h]) else isFalse (fun e => h ⟨by rw [e], by rw [e]⟩)
def ownP (c : S68) : Nat := 1 <<< c.f0.toNat ||| 1 <<< c.f1.toNat
def mLoop : List S68 → List S68 → Nat → List (List S68)
  | [], _, _ => []
  | c :: cs, list, seen => (if seen &&& ownP c = 0 then (list ++ [c]) :: mLoop cs (list ++ [c]) (seen ||| ownP c) else []) ++ mLoop cs list seen
def pairsAll (n : Nat) : List S68 := (List.range n).flatMap fun a : Nat => ((List.range n).filter fun b : Nat => decide (a < b)).map fun b : Nat => ⟨(a : Int), (b : Int)⟩
def allR (n : Nat) : List (List S68) := [] :: mLoop (pairsAll n) [] 0
def fewR (n : Nat) : Nat := if n = 1 then 0 else if n = 2 then 1 else if n = 3 then 3 else if n = 4 then 2 else if n = 5 then 4 else 3
theorem roAll_all : ∀ n : Fin 6, spec_roAll.f 200 ((n.val + 1 : Nat) : Int) = some (allR (n.val + 1)) := by decide +kernel
theorem roAll_ev (n : Nat) (h1 : 1 ≤ n) (h2 : n ≤ 6) : Ev (fun k => spec_roAll.f k (n : Int)) (allR n) := by
  have h := roAll_all ⟨n - 1, by omega⟩
  simp only [show n - 1 + 1 = n by omega] at h
  exact Ev.of (spec_roAll.mono _) h
theorem allR_good_all : ∀ n : Fin 6, ((allR (n.val + 1)).all fun r => matchB (n.val + 1) r && decide (r.length ≤ 3)) = true ∧ (allR (n.val + 1)).length ≤ 100 := by decide +kernel
theorem allR_good (n : Nat) (h1 : 1 ≤ n) (h2 : n ≤ 6) : (∀ r ∈ allR n, matchB n r = true ∧ r.length ≤ 3) ∧ (allR n).length ≤ 100 := by
  have h := allR_good_all ⟨n - 1, by omega⟩
  simp only [show n - 1 + 1 = n by omega] at h
  refine ⟨fun r hr => ?_, h.2⟩
  have := List.all_eq_true.1 h.1 r hr
  simpa using this
theorem popI_full : ∀ n : Fin 7, popI ((2 ^ n.val - 1 : Nat) : Int) = n.val := by decide +kernel
theorem popI_full_at (n : Nat) (h : n ≤ 6) : popI ((2 ^ n - 1 : Nat) : Int) = n := popI_full ⟨n, by omega⟩
theorem fewR_none_all : ∀ n : Fin 6, ∀ m : Fin 4, m.val < fewR (n.val + 1) → solRB (n.val + 1) (allR (n.val + 1)) m.val (startP (n.val + 1)) = false := by decide +kernel
def followR (n : Nat) : List (List S68) → List Int → Bool
  | [], l => allP n l
  | r :: p, l => (allR n).contains r && followR n p (r.foldl meetP l)
theorem followR_sol (n : Nat) : ∀ (p : List (List S68)) (l : List Int), followR n p l = true → solR n (allR n) p.length l
  | [], l, h => h
  | r :: p, l, h => by
    rw [followR, Bool.and_eq_true] at h
    exact ⟨r, by simpa using h.1, followR_sol n p _ h.2⟩
theorem fewR_some (n : Nat) (h1 : 1 ≤ n) (h2 : n ≤ 6) : solR n (allR n) (fewR n) (startP n) := by
  have hc : n = 1 ∨ n = 2 ∨ n = 3 ∨ n = 4 ∨ n = 5 ∨ n = 6 := by omega
  rcases hc with rfl | rfl | rfl | rfl | rfl | rfl
  · exact followR_sol 1 [] _ (by decide +kernel)
  · exact followR_sol 2 [[⟨0, 1⟩]] _ (by decide +kernel)
  · exact followR_sol 3 [[⟨0, 1⟩], [⟨0, 2⟩], [⟨0, 1⟩]] _ (by decide +kernel)
  · exact followR_sol 4 [[⟨0, 1⟩, ⟨2, 3⟩], [⟨0, 2⟩, ⟨1, 3⟩]] _ (by decide +kernel)
  · exact followR_sol 5 [[⟨0, 4⟩], [⟨0, 1⟩, ⟨2, 3⟩], [⟨0, 2⟩, ⟨1, 3⟩], [⟨0, 4⟩]] _ (by decide +kernel)
  · exact followR_sol 6 [[⟨0, 1⟩, ⟨2, 3⟩, ⟨4, 5⟩], [⟨0, 3⟩, ⟨1, 4⟩, ⟨2, 5⟩], [⟨0, 5⟩, ⟨1, 2⟩, ⟨3, 4⟩]] _ (by decide +kernel)

/-! the reference's search for rounds -/
theorem bitsP_len (x : Int) : (bitsP x).length = popI x := by
  simp [bitsP, popI, Go.Proofs.Ytnlmalicpckfbaa.H.pop16, List.countP_eq_length_filter]
theorem shl64_all : ∀ p : Fin 17, ∀ m : Fin 8, shl .i64 (p.val : Int) (m.val : Int) = ((p.val * 2 ^ m.val : Nat) : Int) := by decide +kernel
theorem shl64_at (p m : Nat) (hp : p ≤ 16) (hm : m ≤ 7) : shl .i64 (p : Int) (m : Int) = ((p * 2 ^ m : Nat) : Int) := shl64_all ⟨p, by omega⟩ ⟨m, by omega⟩
theorem thin_all : ∀ q : Fin 17, ∀ p : Fin 17, ∀ m : Fin 8, wrap64 ((q.val : Int) + wrap64 ((p.val : Int) * wrap64 (shl .i64 1 (m.val : Int) - 1))) = ((q.val + p.val * (2 ^ m.val - 1) : Nat) : Int) := by decide +kernel
theorem thin_e {q p m : Nat} (hq : q ≤ 16) (hp : p ≤ 16) (hm : m ≤ 7) : wrap64 ((q : Int) + wrap64 ((p : Int) * wrap64 (shl .i64 1 (m : Int) - 1))) = ((q + p * (2 ^ m - 1) : Nat) : Int) := thin_all ⟨q, by omega⟩ ⟨p, by omega⟩ ⟨m, by omega⟩
theorem mostP_le16 (l : List Int) : mostP l ≤ 16 := mostP_lub (fun x _ => popI_le16 x)
theorem most_f (a b : Nat) : spec_l1Most.f (a : Int) (b : Int) = some ((max a b : Nat) : Int) := by
  unfold spec_l1Most.f
  by_cases h : (a : Int) > (b : Int)
  · rw [if_pos h, show max a b = a by omega]
  · rw [if_neg h, show max a b = b by omega]
theorem isCall_match {n : Nat} {r : List S68} (h : matchB n r = true) : ∀ c ∈ r, isCallB n c.f0 c.f1 = true := by
  intro c hc
  obtain ⟨h1, h2, h3⟩ := matchB_mem h c hc
  simp [isCallB, h1, h2, h3]
def toR (o : Option (List (List S68))) : List (List S68) × Bool := match o with
  | some p => (p, true)
  | none => ([], false)
/-- How few the search may find with so many rounds left. -/
def thinB (n m : Nat) (l : List Int) (x : Int) : Bool := decide (mostP l * 2 ^ m < n) || decide (popI x + mostP l * (2 ^ m - 1) < n)
theorem small_pow (m : Nat) (h : m ≤ 7) : 2 ^ m ≤ 128 ∧ 0 < 2 ^ m := ⟨Nat.pow_le_pow_right (n := 2) (by omega) h, Nat.two_pow_pos m⟩
theorem search_l1 {n : Nat} (hn : n ≤ 10) {l : List Int} (hs : SmallP n l) (all : List (List S68)) (x : Int) (hx : 0 ≤ x ∧ x < 1024) (m : Nat) (hm : m ≤ 7) (j : Nat) (hj : j ≤ 10) (R : List (List S68) × Bool)
    (h1 : thinB n m l x = true → R = ([], false)) (h2 : thinB n m l x = false → Ev (fun k => spec_roSearch.l0 k l (m : Int) all l (l.length : Int) ((j + 1 : Nat) : Int)) R) : ∀ (d i a : Nat), i + d = l.length → a ≤ 16 → (l.drop i).foldl (fun m x => max m (popI x)) a = mostP l →
    Ev (fun k => spec_roSearch.l1 k l (m : Int) all x (a : Int) l (l.length : Int) (j : Int) l (l.length : Int) (i : Int)) R := by
  intro d
  have hl := hs.1
  obtain ⟨b1, b2⟩ := small_pow m hm
  have b3 := mostP_le16 l
  have b4 := popI_le16 x
  have b6 : (0 : Int) ≤ (m : Int) := by omega
  induction d with
  | zero =>
    intro i a hi ha hf
    have hi' : ¬ (i : Int) < (l.length : Int) := by omega
    rw [List.drop_eq_nil_of_le (by omega), List.foldl_nil] at hf
    subst hf
    by_cases c1 : mostP l * 2 ^ m < n
    · have c1' : ((mostP l * 2 ^ m : Nat) : Int) < (l.length : Int) := by omega
      rw [h1 (by simp [thinB, c1])]
      exact Ev.step (fun k => by simp only [spec_roSearch.l1, if_neg hi', if_pos b6, shl64_at (mostP l) m b3 hm, if_pos c1'] <;> exact rfl) (ev_now _)
    · have c1' : ¬ ((mostP l * 2 ^ m : Nat) : Int) < (l.length : Int) := by omega
      by_cases c2 : popI x + mostP l * (2 ^ m - 1) < n
      · have c2' : ((popI x + mostP l * (2 ^ m - 1) : Nat) : Int) < (l.length : Int) := by omega
        rw [h1 (by simp [thinB, c2])]
        refine Ev.step (fun k => by simp only [spec_roSearch.l1, if_neg hi', if_pos b6, shl64_at (mostP l) m b3 hm, if_neg c1'] <;> exact rfl) (Ev.bind (caBits_ev hx) ?_)
        simp only [bitsP_len, thin_e b4 b3 hm, if_pos c2']
        exact ev_now _
      · have c2' : ¬ ((popI x + mostP l * (2 ^ m - 1) : Nat) : Int) < (l.length : Int) := by omega
        have h3 := h2 (by simp [thinB, c1, c2])
        refine Ev.step (fun k => by simp only [spec_roSearch.l1, if_neg hi', if_pos b6, shl64_at (mostP l) m b3 hm, if_neg c1'] <;> exact rfl) (Ev.bind (caBits_ev hx) ?_)
        simp only [bitsP_len, thin_e b4 b3 hm, if_neg c2', w64 (show -9223372036854775808 ≤ (j : Int) + 1 by omega) (by omega)]
        exact h3
  | succ d ih =>
    intro i a hi ha hf
    have q1 : (i : Int) < (l.length : Int) := by omega
    have q2 : (0 : Int) ≤ (i : Int) := by omega
    have e1 := w64 (show -9223372036854775808 ≤ (i : Int) + 1 by omega) (by omega)
    rw [drop_at l i 0 (by omega), List.foldl_cons] at hf
    have hy := smallP_1024 hs hn i (by omega)
    have hb := popI_le16 (l.getD i 0)
    refine Ev.step (fun k => by simp only [spec_roSearch.l1, if_pos q1, if_pos q2, e1] <;> exact rfl) (Ev.bind (caBits_ev (show 0 ≤ rd l (i : Int) ∧ rd l (i : Int) < 1024 from hy)) ?_)
    simp only [bitsP_len, most_f, Option.bind_some]
    exact ih (i + 1) (max a (popI (l.getD i 0))) (by omega) (by omega) hf
theorem pruneS_any (n m : Nat) (l r : List Int) : (r.any fun x => decide (popI x ≠ n) && (decide (mostP l * 2 ^ m < n) || decide (popI x + mostP l * (2 ^ m - 1) < n))) = r.any fun x => decide (popI x ≠ n) && thinB n m l x := rfl
theorem search_l0 {n : Nat} (hn : n ≤ 10) {l : List Int} (hs : SmallP n l) (all : List (List S68)) (m : Nat) (hm : m ≤ 7) (R : List (List S68) × Bool) : ∀ (d i : Nat), i + d = l.length →
    (((l.drop i).any fun x => decide (popI x ≠ n) && thinB n m l x) = true → R = ([], false)) → (((l.drop i).any fun x => decide (popI x ≠ n) && thinB n m l x) = false → Ev (fun k => spec_roSearch.l2 k l (m : Int) all all (all.length : Int) 0) R) →
    Ev (fun k => spec_roSearch.l0 k l (m : Int) all l (l.length : Int) (i : Int)) R := by
  intro d
  have hl := hs.1
  induction d with
  | zero =>
    intro i hi h1 h2
    have hi' : ¬ (i : Int) < (l.length : Int) := by omega
    exact Ev.step (fun k => by simp only [spec_roSearch.l0, if_neg hi'] <;> exact rfl) (h2 (by rw [List.drop_eq_nil_of_le (by omega)]; rfl))
  | succ d ih =>
    intro i hi h1 h2
    have q1 : (i : Int) < (l.length : Int) := by omega
    have q2 : (0 : Int) ≤ (i : Int) := by omega
    have e1 := w64 (show -9223372036854775808 ≤ (i : Int) + 1 by omega) (by omega)
    rw [drop_at l i 0 (by omega), List.any_cons] at h1 h2
    have hy := smallP_1024 hs hn i (by omega)
    refine Ev.step (fun k => by simp only [spec_roSearch.l0, if_pos q1, if_pos q2, e1] <;> exact rfl) (Ev.bind (caBits_ev (show 0 ≤ rd l (i : Int) ∧ rd l (i : Int) < 1024 from hy)) ?_)
    simp only [bitsP_len]
    by_cases c : popI (l.getD i 0) = n
    · have c' : ((popI (rd l (i : Int)) : Nat) : Int) = (l.length : Int) := by show ((popI (l.getD i 0) : Nat) : Int) = _; omega
      simp only [if_pos c']
      have c2 : (decide (popI (l.getD i 0) ≠ n) && thinB n m l (l.getD i 0)) = false := by rw [decide_eq_false (fun h => h c), Bool.false_and]
      rw [c2, Bool.false_or] at h1 h2
      exact ih (i + 1) (by omega) h1 h2
    · have c' : ¬ ((popI (rd l (i : Int)) : Nat) : Int) = (l.length : Int) := by show ¬ ((popI (l.getD i 0) : Nat) : Int) = _; omega
      simp only [if_neg c']
      have c2 : (decide (popI (l.getD i 0) ≠ n) && thinB n m l (l.getD i 0)) = thinB n m l (l.getD i 0) := by rw [decide_eq_true c, Bool.true_and]
      rw [c2] at h1 h2
      refine search_l1 hn hs all _ hy m hm i (by omega) R (fun h => h1 (by rw [h, Bool.true_or])) (fun h => ?_) l.length 0 0 (by omega) (by omega) rfl
      rw [h, Bool.false_or] at h1 h2
      exact ih (i + 1) (by omega) h1 h2
theorem search_l3 {n : Nat} (hn : n ≤ 10) (l : List Int) (m : Nat) (hm : m ≤ 7) (all : List (List S68)) (r : List S68) (hr : matchB n r = true) (hr3 : r.length ≤ 3) (j : Nat) (hj : j ≤ 100) (R : List (List S68) × Bool) (v : List (List S68) × Bool) (hv : v.1.length ≤ 7)
    (h1 : v.2 = true → R = (r :: v.1, true)) (h2 : v.2 = false → Ev (fun k => spec_roSearch.l2 k l (m : Int) all all (all.length : Int) ((j + 1 : Nat) : Int)) R) : ∀ (d i : Nat) (s : List Int), SmallP n s → i + d = r.length → Ev (fun k => spec_roSearch.f k ((r.drop i).foldl meetP s) ((m : Int) - 1) all) v →
    Ev (fun k => spec_roSearch.l3 k l (m : Int) all r s all (all.length : Int) (j : Int) r (r.length : Int) (i : Int)) R := by
  intro d
  have e0 := w64 (show -9223372036854775808 ≤ (j : Int) + 1 by omega) (by omega)
  have e1 := w64 (show -9223372036854775808 ≤ (m : Int) - 1 by omega) (by omega)
  induction d with
  | zero =>
    intro i s hs hi hf
    have hi' : ¬ (i : Int) < (r.length : Int) := by omega
    rw [List.drop_eq_nil_of_le (by omega), List.foldl_nil] at hf
    refine Ev.step (fun k => by simp only [spec_roSearch.l3, if_neg hi', e0, e1] <;> exact rfl) (Ev.bind hf ?_)
    cases hb : v.2 with
    | true =>
      rw [h1 hb]
      have q1 : ([] : List S68).length + r.length < 8796093022208 := by simp; omega
      have q2 : ([[] ++ r] : List (List S68)).length + v.1.length < 5864062014805 := by simp; omega
      simp only [if_true, Option.bind_some, if_pos q1, if_pos q2]
      exact ev_now _
    | false =>
      simp only [Bool.false_eq_true, if_false]
      exact h2 hb
  | succ d ih =>
    intro i s hs hi hf
    have q1 : (i : Int) < (r.length : Int) := by omega
    have q2 : (0 : Int) ≤ (i : Int) := by omega
    have e2 := w64 (show -9223372036854775808 ≤ (i : Int) + 1 by omega) (by omega)
    rw [drop_at r i z68 (by omega), List.foldl_cons] at hf
    have hc := isCall_match hr (r.getD i z68) (by rw [getD_at _ _ _ (show i < r.length by omega)]; exact List.getElem_mem _)
    have e3 : spec_caMake.f s (rd_T68 r (i : Int)).f0 (rd_T68 r (i : Int)).f1 = some (meetP s (r.getD i z68)) := caMake_f hn hs _ hc
    refine Ev.step (fun k => by simp only [spec_roSearch.l3, if_pos q1, if_pos q2, e2, e3, Option.bind_some] <;> exact rfl) ?_
    exact ih (i + 1) _ (smallP_meet hs _ hc) (by omega) hf
theorem search_l2 {n : Nat} (hn : n ≤ 10) (l : List Int) (hs : SmallP n l) (m : Nat) (hm : m ≤ 7) (h0 : 1 ≤ m) (all : List (List S68)) (hall : ∀ r ∈ all, matchB n r = true ∧ r.length ≤ 3) (ha : all.length ≤ 100)
    (ih : ∀ r ∈ all, Ev (fun k => spec_roSearch.f k (r.foldl meetP l) ((m : Int) - 1) all) (toR (roundS n all (m - 1) (r.foldl meetP l)))) : ∀ (d j : Nat), j + d = all.length →
    Ev (fun k => spec_roSearch.l2 k l (m : Int) all all (all.length : Int) (j : Int)) (toR ((all.drop j).findSome? fun r => (roundS n all (m - 1) (r.foldl meetP l)).map (r :: ·))) := by
  intro d
  induction d with
  | zero =>
    intro j hj
    have hj' : ¬ (j : Int) < (all.length : Int) := by omega
    refine Ev.step (fun k => by simp only [spec_roSearch.l2, if_neg hj'] <;> exact rfl) ?_
    rw [List.drop_eq_nil_of_le (by omega)]
    exact ev_now _
  | succ d ihd =>
    intro j hj
    have q1 : (j : Int) < (all.length : Int) := by omega
    have q2 : (0 : Int) ≤ (j : Int) := by omega
    have hm1 : all.getD j [] ∈ all := by rw [getD_at _ _ _ (show j < all.length by omega)]; exact List.getElem_mem _
    obtain ⟨hr, hr3⟩ := hall _ hm1
    refine Ev.step (fun k => by simp only [spec_roSearch.l2, if_pos q1, if_pos q2] <;> exact rfl) ?_
    have hv := ih _ hm1
    rw [drop_at all j [] (by omega), List.findSome?_cons]
    refine search_l3 hn l m hm all (all.getD j []) hr hr3 j (by omega) _ _ ?_ ?_ ?_ (all.getD j []).length 0 l hs (by omega) hv
    · cases hq : roundS n all (m - 1) ((all.getD j []).foldl meetP l) with
      | none => simp [toR]
      | some p =>
        have := (roundS_sol n all _ _ p hq).2
        simp only [toR]; omega
    · cases hq : roundS n all (m - 1) ((all.getD j []).foldl meetP l) with
      | none => simp [toR]
      | some p => simp [toR]
    · cases hq : roundS n all (m - 1) ((all.getD j []).foldl meetP l) with
      | none => intro _; simpa using ihd (j + 1) (by omega)
      | some p => simp [toR]
theorem search_ev {n : Nat} (hn : n ≤ 10) (all : List (List S68)) (hall : ∀ r ∈ all, matchB n r = true ∧ r.length ≤ 3) (ha : all.length ≤ 100) : ∀ (m : Nat) (l : List Int), m ≤ 7 → SmallP n l → Ev (fun k => spec_roSearch.f k l (m : Int) all) (toR (roundS n all m l))
  | 0, l, _, hs => by
    refine Ev.step (fun k => by simp only [spec_roSearch.f, if_pos (show ((0 : Nat) : Int) = 0 from rfl)] <;> exact rfl) (Ev.bind (caAll_ev hn hs) ?_)
    rw [roundS]
    cases allP n l <;> exact ev_now _
  | m + 1, l, hm, hs => by
    have q : ¬ ((m + 1 : Nat) : Int) = 0 := by omega
    refine Ev.step (fun k => by simp only [spec_roSearch.f, if_neg q] <;> exact rfl) ?_
    refine search_l0 hn hs all (m + 1) hm _ l.length 0 (by omega) (fun h => ?_) (fun h => ?_)
    · have h' : pruneS n (m + 1) l = true := h
      rw [roundS, if_pos h']; rfl
    · have h' : ¬ pruneS n (m + 1) l = true := fun e => by
        rw [List.drop_zero] at h
        exact absurd (h.symm.trans e) (by simp)
      rw [roundS, if_neg h']
      have := search_l2 hn l hs (m + 1) hm (by omega) all hall ha (fun r hr => by
        have := search_ev hn all hall ha m (r.foldl meetP l) (by omega) (smallP_foldl r l hs (isCall_match (hall r hr).1))
        rw [show ((m + 1 : Nat) : Int) - 1 = (m : Int) by omega]
        exact this) all.length 0 (by omega)
      simpa using this
theorem fewR_le (n : Nat) : fewR n ≤ 4 := by
  unfold fewR
  repeat' split
  all_goals omega
theorem fewR_none (n : Nat) (h1 : 1 ≤ n) (h2 : n ≤ 6) (m : Nat) (h : m < fewR n) : solRB n (allR n) m (startP n) = false := by
  have h3 := fewR_le n
  have := fewR_none_all ⟨n - 1, by omega⟩ ⟨m, by omega⟩
  simp only [show n - 1 + 1 = n by omega] at this
  exact this h
/-- The first list of the fewest rounds. -/
theorem roFirst_l0 (n : Nat) (h1 : 1 ≤ n) (h2 : n ≤ 6) : ∃ p : List (List S68), roundS n (allR n) (fewR n) (startP n) = some p ∧ p.length = fewR n ∧ ∀ (d m : Nat), m + d = fewR n → Ev (fun k => spec_roFirst.l0 k (n : Int) (allR n) (m : Int)) p := by
  obtain ⟨g1, g2⟩ := allR_good n h1 h2
  obtain ⟨p, hp⟩ := round_some (popI_full_at n h2) (by omega) (fun r hr => (g1 r hr).1) (fewR n) (startP n) (smallP_start n).1 (fewR_some n h1 h2)
  have hf := fewR_le n
  refine ⟨p, hp, (roundS_sol n _ _ _ p hp).2, fun d => ?_⟩
  have hc := caStart_ev (n : Int) (by omega) (by omega)
  rw [Int.toNat_natCast] at hc
  induction d with
  | zero =>
    intro m hm
    obtain rfl : m = fewR n := by omega
    refine Ev.step (fun k => by simp only [spec_roFirst.l0] <;> exact rfl) (Ev.bind hc (Ev.bind (search_ev (by omega) _ g1 g2 (fewR n) (startP n) (by omega) (smallP_start n)) ?_))
    rw [hp]
    exact ev_now _
  | succ d ih =>
    intro m hm
    have hn := fewR_none n h1 h2 m (by omega)
    refine Ev.step (fun k => by simp only [spec_roFirst.l0, w64 (show -9223372036854775808 ≤ (m : Int) + 1 by omega) (by omega)] <;> exact rfl) (Ev.bind hc (Ev.bind (search_ev (by omega) _ g1 g2 m (startP n) (by omega) (smallP_start n)) ?_))
    rw [round_none hn]
    exact ih (m + 1) (by omega)

theorem few_ev : ∀ n : Fin 6, impl_fewestRounds.f 20 ((n.val + 1 : Nat) : Int) = some ((fewR (n.val + 1) : Nat) : Int) := by decide +kernel
theorem fewest_ev (n : Nat) (h1 : 1 ≤ n) (h2 : n ≤ 6) : Ev (fun k => impl_fewestRounds.f k (n : Int)) ((fewR n : Nat) : Int) := by
  have h := few_ev ⟨n - 1, by omega⟩
  simp only [show n - 1 + 1 = n by omega] at h
  exact Ev.of (impl_fewestRounds.mono _) h
theorem pairs_all : ∀ n : Fin 6, impl_allPairs.f 100 ((n.val + 1 : Nat) : Int) = some (pairsAll (n.val + 1)) := by decide +kernel
theorem allPairs_ev (n : Nat) (h1 : 1 ≤ n) (h2 : n ≤ 6) : Ev (fun k => impl_allPairs.f k (n : Int)) (pairsAll n) := by
  have h := pairs_all ⟨n - 1, by omega⟩
  simp only [show n - 1 + 1 = n by omega] at h
  exact Ev.of (impl_allPairs.mono _) h
theorem matchings_all : ∀ n : Fin 6, impl_matchings.f 300 (pairsAll (n.val + 1)) = some (allR (n.val + 1)) := by decide +kernel
theorem matchings_ev (n : Nat) (h1 : 1 ≤ n) (h2 : n ≤ 6) : Ev (fun k => impl_matchings.f k (pairsAll n)) (allR n) := by
  have h := matchings_all ⟨n - 1, by omega⟩
  simp only [show n - 1 + 1 = n by omega] at h
  exact Ev.of (impl_matchings.mono _) h
theorem mx_nat (a b : Nat) : mx (a : Int) (b : Int) = ((max a b : Nat) : Int) := by unfold mx; split <;> omega
theorem canGrow_l0 {n : Nat} (hn : n ≤ 10) {l : List Int} (hs : SmallP n l) (m : Nat) (hm : m ≤ 7) : ∀ (d i a : Nat), i + d = l.length → (l.drop i).foldl (fun m x => max m (popI x)) a = mostP l →
    Ev (fun k => impl_canGrow.l0 k (m : Int) (n : Int) (a : Int) l (l.length : Int) (i : Int)) (decide (n ≤ mostP l * 2 ^ m)) := by
  intro d
  have hl := hs.1
  have b3 := mostP_le16 l
  induction d with
  | zero =>
    intro i a hi hf
    have hi' : ¬ (i : Int) < (l.length : Int) := by omega
    rw [List.drop_eq_nil_of_le (by omega), List.foldl_nil] at hf
    subst hf
    have b6 : (0 : Int) ≤ (m : Int) := by omega
    have e : decide ((((mostP l * 2 ^ m : Nat) : Int)) ≥ (n : Int)) = decide (n ≤ mostP l * 2 ^ m) := by
      rw [Bool.eq_iff_iff, decide_eq_true_eq, decide_eq_true_eq]; omega
    exact Ev.step (fun k => by simp only [impl_canGrow.l0, if_neg hi', if_pos b6, shl64_at (mostP l) m b3 hm, e] <;> exact rfl) (ev_now _)
  | succ d ih =>
    intro i a hi hf
    have q1 : (i : Int) < (l.length : Int) := by omega
    have q2 : (0 : Int) ≤ (i : Int) := by omega
    have e1 := w64 (show -9223372036854775808 ≤ (i : Int) + 1 by omega) (by omega)
    rw [drop_at l i 0 (by omega), List.foldl_cons] at hf
    have hy := smallP_1024 hs hn i (by omega)
    refine Ev.step (fun k => by simp only [impl_canGrow.l0, if_pos q1, if_pos q2, e1, onesCount_f (show 0 ≤ rd l (i : Int) ∧ rd l (i : Int) < 1024 from hy), Option.bind_some, mx_nat] <;> exact rfl) ?_
    exact ih (i + 1) _ (by omega) hf
theorem canGrow_ev {n : Nat} (hn : n ≤ 10) {l : List Int} (hs : SmallP n l) (m : Nat) (hm : m ≤ 7) : Ev (fun k => impl_canGrow.f k l (m : Int) (n : Int)) (decide (n ≤ mostP l * 2 ^ m)) := by
  unfold impl_canGrow.f
  exact canGrow_l0 hn hs m hm l.length 0 0 (by omega) rfl
theorem clone16 (l : List Int) (h : l.length ≤ 100) : impl_news_uint16.f l = some l := by
  unfold impl_news_uint16.f
  simp only [Option.bind_some, List.nil_append, List.length_nil]
  rw [if_pos (by omega)]
theorem cloneC (l : List S68) (h : l.length ≤ 100) : impl_Call_52.f l = some l := by
  unfold impl_Call_52.f
  simp only [Option.bind_some, List.nil_append, List.length_nil]
  rw [if_pos (by omega)]
theorem cloneCC (l : List (List S68)) (h : l.length ≤ 100) : impl_Call_62.f l = some l := by
  unfold impl_Call_62.f
  rw [if_pos (by omega)]
def outI (list : List (List S68)) (o : Option (List (List S68))) : List (List S68) × Bool := match o with
  | some p => (list ++ p, true)
  | none => ([], false)
def resI (n : Nat) (all : List (List S68)) (m : Nat) (list : List (List S68)) (l : List Int) : List (List S68) × Bool := match roundI n all m l with
  | some p => (list ++ p, true)
  | none => (if m = 0 then list else [], false)
theorem lit_l1 {n : Nat} (hn : n ≤ 10) (M : Int) (list : List (List S68)) (hl : list.length ≤ 50) (l : List Int) (all : List (List S68)) (r : List S68) (hr : matchB n r = true) (hr3 : r.length ≤ 3) (j : Nat) (hj : j ≤ 100) (R v : List (List S68) × Bool)
    (h1 : v.2 = true → R = (v.1, true)) (h2 : v.2 = false → Ev (fun k => impl_FirstRoundsLit1.l0 k list l M (n : Int) all 0 all (all.length : Int) ((j + 1 : Nat) : Int)) R) : ∀ (d i : Nat) (s : List Int), SmallP n s → i + d = r.length → Ev (fun k => impl_FirstRoundsLit1.f k (list ++ [r]) ((r.drop i).foldl meetP s) M (n : Int) all 0) v →
    Ev (fun k => impl_FirstRoundsLit1.l1 k list l M (n : Int) all 0 r s all (all.length : Int) (j : Int) r (r.length : Int) (i : Int)) R := by
  intro d
  have e0 := w64 (show -9223372036854775808 ≤ (j : Int) + 1 by omega) (by omega)
  induction d with
  | zero =>
    intro i s hs hi hf
    have hi' : ¬ (i : Int) < (r.length : Int) := by omega
    have q1 : list.length < 5864062014805 := by omega
    rw [List.drop_eq_nil_of_le (by omega), List.foldl_nil] at hf
    refine Ev.step (fun k => by simp only [impl_FirstRoundsLit1.l1, if_neg hi', e0, cloneCC list (by omega), cloneC r (by omega), Option.bind_some, if_pos q1] <;> exact rfl) (Ev.bind hf ?_)
    cases hb : v.2 with
    | true =>
      rw [h1 hb]
      simp only [if_true]
      exact ev_now _
    | false =>
      simp only [Bool.false_eq_true, if_false]
      exact h2 hb
  | succ d ih =>
    intro i s hs hi hf
    have q1 : (i : Int) < (r.length : Int) := by omega
    have q2 : (0 : Int) ≤ (i : Int) := by omega
    have e2 := w64 (show -9223372036854775808 ≤ (i : Int) + 1 by omega) (by omega)
    rw [drop_at r i z68 (by omega), List.foldl_cons] at hf
    have hc := isCall_match hr (r.getD i z68) (by rw [getD_at _ _ _ (show i < r.length by omega)]; exact List.getElem_mem _)
    have e3 : impl_news_meet.f s (rd_T68 r (i : Int)).f0 (rd_T68 r (i : Int)).f1 = some (meetP s (r.getD i z68)) := meet_f hn hs _ hc
    refine Ev.step (fun k => by simp only [impl_FirstRoundsLit1.l1, if_pos q1, if_pos q2, e2, e3, Option.bind_some] <;> exact rfl) ?_
    exact ih (i + 1) _ (smallP_meet hs _ hc) (by omega) hf
theorem lit_l0 {n : Nat} (hn : n ≤ 10) (m : Nat) (list : List (List S68)) (hl : list.length + (m + 1) ≤ 50) (l : List Int) (hs : SmallP n l) (all : List (List S68)) (hall : ∀ r ∈ all, matchB n r = true ∧ r.length ≤ 3) (ha : all.length ≤ 100)
    (ih : ∀ r ∈ all, Ev (fun k => impl_FirstRoundsLit1.f k (list ++ [r]) (r.foldl meetP l) ((list.length + (m + 1) : Nat) : Int) (n : Int) all 0) (resI n all m (list ++ [r]) (r.foldl meetP l))) : ∀ (d j : Nat), j + d = all.length →
    Ev (fun k => impl_FirstRoundsLit1.l0 k list l ((list.length + (m + 1) : Nat) : Int) (n : Int) all 0 all (all.length : Int) (j : Int)) (outI list ((all.drop j).findSome? fun r => (roundI n all m (r.foldl meetP l)).map (r :: ·))) := by
  intro d
  have hlen := hs.1
  induction d with
  | zero =>
    intro j hj
    have hj' : ¬ (j : Int) < (all.length : Int) := by omega
    rw [List.drop_eq_nil_of_le (by omega)]
    exact Ev.step (fun k => by simp only [impl_FirstRoundsLit1.l0, if_neg hj'] <;> exact rfl) (ev_now _)
  | succ d ihd =>
    intro j hj
    have q1 : (j : Int) < (all.length : Int) := by omega
    have q2 : (0 : Int) ≤ (j : Int) := by omega
    have hm1 : all.getD j [] ∈ all := by rw [getD_at _ _ _ (show j < all.length by omega)]; exact List.getElem_mem _
    obtain ⟨hr, hr3⟩ := hall _ hm1
    refine Ev.step (fun k => by simp only [impl_FirstRoundsLit1.l0, if_pos q1, if_pos q2, clone16 l (by omega), Option.bind_some] <;> exact rfl) ?_
    have hv := ih _ hm1
    have hn1 := ihd (j + 1) (by omega)
    rw [drop_at all j [] (by omega), List.findSome?_cons]
    refine lit_l1 hn _ list (by omega) l all (all.getD j []) hr hr3 j (by omega) _ _ ?_ ?_ (all.getD j []).length 0 l hs (by omega) hv
    · unfold resI
      cases hq : roundI n all m ((all.getD j []).foldl meetP l) with
      | none => simp
      | some p => simp [outI]
    · unfold resI
      cases hq : roundI n all m ((all.getD j []).foldl meetP l) with
      | none => intro _; simpa using hn1
      | some p => simp
theorem lit_ev {n : Nat} (hn : n ≤ 10) (all : List (List S68)) (hall : ∀ r ∈ all, matchB n r = true ∧ r.length ≤ 3) (ha : all.length ≤ 100) : ∀ (m : Nat) (l : List Int) (list : List (List S68)), m ≤ 7 → SmallP n l → list.length + m ≤ 50 →
    Ev (fun k => impl_FirstRoundsLit1.f k list l ((list.length + m : Nat) : Int) (n : Int) all 0) (resI n all m list l)
  | 0, l, list, _, hs, hl => by
    have q : wrap64 (((list.length + 0 : Nat) : Int) - (list.length : Int)) = 0 := by rw [w64 (by omega) (by omega)]; omega
    refine Ev.step (fun k => by simp only [impl_FirstRoundsLit1.f, if_pos q] <;> exact rfl) (Ev.bind (allKnow_ev hn hs) ?_)
    unfold resI roundI
    cases allP n l with
    | true => simpa using ev_now _
    | false => simpa using ev_now _
  | m + 1, l, list, hm, hs, hl => by
    have q0 : wrap64 (((list.length + (m + 1) : Nat) : Int) - (list.length : Int)) = ((m + 1 : Nat) : Int) := by rw [w64 (by omega) (by omega)]; omega
    have q : ¬ ((m + 1 : Nat) : Int) = 0 := by omega
    refine Ev.step (fun k => by simp only [impl_FirstRoundsLit1.f, q0, if_neg q] <;> exact rfl) (Ev.bind (canGrow_ev hn hs (m + 1) hm) ?_)
    by_cases hg : mostP l * 2 ^ (m + 1) < n
    · have hd : decide (n ≤ mostP l * 2 ^ (m + 1)) = false := decide_eq_false (by omega)
      have e : resI n all (m + 1) list l = ([], false) := by
        unfold resI
        rw [roundI, if_pos hg]
        simp
      rw [hd, e]
      simp only [Bool.false_eq_true, if_false]
      exact ev_now _
    · have hd : decide (n ≤ mostP l * 2 ^ (m + 1)) = true := decide_eq_true (by omega)
      have e : resI n all (m + 1) list l = outI list (all.findSome? fun r => (roundI n all m (r.foldl meetP l)).map (r :: ·)) := by
        unfold resI
        rw [roundI, if_neg hg]
        cases (all.findSome? fun r => (roundI n all m (r.foldl meetP l)).map (r :: ·)) with
        | none => simp [outI]
        | some p => rfl
      rw [hd, e]
      simp only [if_true]
      have := lit_l0 hn m list (by omega) l hs all hall ha (fun r hr => by
        have := lit_ev hn all hall ha m (r.foldl meetP l) (list ++ [r]) (by omega) (smallP_foldl r l hs (isCall_match (hall r hr).1)) (by simp; omega)
        rw [show (list ++ [r]).length + m = list.length + (m + 1) by simp; omega] at this
        exact this) all.length 0 (by omega)
      simpa using this
def bestR (n : Nat) : List (List S68) := (roundS n (allR n) (fewR n) (startP n)).getD []
def resP (n : Int) : List (List S68) × Bool := if 1 ≤ n ∧ n ≤ 6 then (bestR n.toNat, true) else ([], false)
theorem roundS_mem (n : Nat) (all : List (List S68)) : ∀ (m : Nat) (l : List Int) (p : List (List S68)), roundS n all m l = some p → ∀ r ∈ p, r ∈ all
  | 0, l, p, h => by
    rw [roundS] at h
    split at h
    · cases h; intro r hr; cases hr
    · cases h
  | m + 1, l, p, h => by
    rw [roundS] at h
    split at h
    · cases h
    · obtain ⟨c, hc, h2⟩ := List.exists_of_findSome?_eq_some h
      obtain ⟨q, hq, rfl⟩ := Option.map_eq_some_iff.1 h2
      intro r hr
      rcases List.mem_cons.1 hr with rfl | hr
      · exact hc
      · exact roundS_mem n all m _ q hq r hr
theorem best_spec (n : Nat) (h1 : 1 ≤ n) (h2 : n ≤ 6) : roundS n (allR n) (fewR n) (startP n) = some (bestR n) := by
  obtain ⟨p, hp, _⟩ := roFirst_l0 n h1 h2
  rw [bestR, hp]; rfl
theorem best_impl (n : Nat) (h1 : 1 ≤ n) (h2 : n ≤ 6) : roundI n (allR n) (fewR n) (startP n) = some (bestR n) := by
  rw [round_eq (popI_full_at n h2) (by omega) (fun r hr => ((allR_good n h1 h2).1 r hr).1) _ _ (smallP_start n).1]
  exact best_spec n h1 h2
theorem resP_rows (n : Int) : RowsC (resP n).1 ∧ 1 + totC (resP n).1 ≤ 1099511627776 := by
  have h : (resP n).1.length ≤ 5 ∧ ∀ r ∈ (resP n).1, r.length ≤ 5 := by
    unfold resP
    split
    · rename_i hc
      have hb := best_spec n.toNat (by omega) (by omega)
      have hl := (roundS_sol _ _ _ _ _ hb).2
      have hf := fewR_le n.toNat
      refine ⟨by show (bestR n.toNat).length ≤ 5; omega, fun r hr => ?_⟩
      have := ((allR_good n.toNat (by omega) (by omega)).1 r (roundS_mem _ _ _ _ _ hb r hr)).2
      omega
    · exact ⟨Nat.zero_le _, fun r hr => by cases hr⟩
  refine ⟨⟨by omega, fun r hr => by have := h.2 r hr; omega⟩, ?_⟩
  have h2 := totC_le 5 (resP n).1 h.2
  omega
theorem spec_ev (n : Int) : Ev (fun k => spec_FirstRounds.f k n) (resP n) := by
  unfold spec_FirstRounds.f resP spec_l1In.f
  by_cases h1 : 1 ≤ n
  · by_cases h2 : n ≤ 6
    · obtain ⟨m, rfl⟩ : ∃ m : Nat, n = (m : Int) := ⟨n.toNat, by omega⟩
      obtain ⟨p, hp0, hp, hq⟩ := roFirst_l0 m (by omega) (by omega)
      have hb : bestR m = p := by rw [bestR, hp0]; rfl
      simp only [h1, h2, decide_true, if_true, and_self, Option.bind_some, Int.toNat_natCast, hb]
      unfold spec_roFirst.f
      exact Ev.bind (Ev.bind (roAll_ev m (by omega) (by omega)) (hq (fewR m) 0 (by omega))) (ev_now _)
    · simpa [h1, h2] using ev_now _
  · simpa [h1] using ev_now _
theorem impl_ev (n : Int) : Ev (fun k => impl_FirstRounds.f k n) (resP n) := by
  unfold impl_FirstRounds.f resP impl_within.f
  by_cases h1 : 1 ≤ n
  · by_cases h2 : n ≤ 6
    · obtain ⟨m, rfl⟩ : ∃ m : Nat, n = (m : Int) := ⟨n.toNat, by omega⟩
      have hf := fewR_le m
      obtain ⟨g1, g2⟩ := allR_good m (by omega) (by omega)
      have := lit_ev (by omega : m ≤ 10) (allR m) g1 g2 (fewR m) (startP m) [] (by omega) (smallP_start m) (by simp; omega)
      rw [List.length_nil, Nat.zero_add] at this
      have hr : resI m (allR m) (fewR m) [] (startP m) = (bestR m, true) := by
        unfold resI
        rw [best_impl m (by omega) (by omega)]
        rfl
      rw [hr] at this
      simp only [h1, h2, decide_true, if_true, and_self, Option.bind_some, Int.toNat_natCast]
      refine Ev.bind (fewest_ev m (by omega) (by omega)) (Ev.bind (allPairs_ev m (by omega) (by omega)) (Ev.bind (matchings_ev m (by omega) (by omega)) (Ev.bind ?_ this)))
      have := first_ev (m : Int) h1 (by omega)
      rwa [Int.toNat_natCast] at this
    · simpa [h1, h2] using ev_now _
  · simpa [h1] using ev_now _
theorem FnExactFirstRounds : ∀ (a0 : Int), (Lit.int .i64 a0).wf = true → ∃ k, laws_FnExactFirstRounds.f k a0 = some true := by
  intro a0 w0
  apply Ev.rounds
  unfold laws_FnExactFirstRounds.f
  refine Ev.bind (spec_ev a0) ?_
  refine Ev.bind (impl_ev a0) ?_
  obtain ⟨hr, hb⟩ := resP_rows a0
  refine Ev.bind (eqCallSS_ev _ hr) ?_
  simp only [true_and, if_true]
  refine Ev.bind (markCallSS_ev _ 1 hr (by omega) hb) ?_
  refine Ev.bind (heldCallSS_ev _ 1 hr (by omega) hb) ?_
  have hp : 0 ≤ 1 + totC (resP a0).1 := by have := totC_nonneg (resP a0).1; omega
  simp only [hp, and_self, if_true]
  exact ev_now _

end Go.Proofs.Ytnlmalicpckfbaa.Pure
