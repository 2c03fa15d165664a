/- The pure side of FnExactParseRounds: program and reference agree at every argument. No condition beside what an argument is. -/
import Derived.Test.YtnlmalicpckfbaaDoorPFnExactParseRoundsx17
import Derived.Test.YtnlmalicpckfbaaDoorPBase
import Derived.Test.YtnlmalicpckfbaaDoorHContRow
namespace Go.Proofs.YtnlmalicpckfbaaDoor.Pure
open Go.RowKit Go.Proofs.YtnlmalicpckfbaaDoor.PFnExactParseRounds Go.Proofs.YtnlmalicpckfbaaDoorW.PrintWords Go.Proofs.YtnlmalicpckfbaaDoorW.PrintLast Go.Proofs.YtnlmalicpckfbaaDoorW.PrintMore Go.Proofs.YtnlmalicpckfbaaDoor.PB
set_option linter.unusedSimpArgs false
set_option linter.unusedVariables false
/-! calls: read, compared, marked -/
theorem eqCallS_l0 (a : List S41) (h : a.length ≤ 1048576) : ∀ (d : Nat) (i : Int), 0 ≤ i → i + d = a.length → Ev (fun k => laws_eqCallS.l0 k a a i) true := by
  intro d
  induction d with
  | zero =>
    intro i h0 hi
    refine ev_step (f := fun _ => some true) (fun k => ?_) (ev_now _)
    simp only [laws_eqCallS.l0]; rw [if_neg (by omega)]
  | succ d ih =>
    intro i h0 hi
    refine ev_step (f := fun k => laws_eqCallS.l0 k a a (i + 1)) (fun k => ?_) (ih _ (by omega) (by omega))
    simp only [laws_eqCallS.l0, laws_eqCall.f, if_true, Option.bind_some]
    rw [if_pos (by omega), if_pos h0, if_pos (by omega), w64 (by omega) (by omega)]
theorem eqCallS_ev (a : List S41) (h : a.length ≤ 1048576) : Ev (fun k => laws_eqCallS.f k a a) true := by
  unfold laws_eqCallS.f
  simp only [if_true]
  exact eqCallS_l0 a h a.length 0 (by omega) (by omega)

/-! calls: marked -/
def markedC (n : Nat) (m : Int) : List S41 := (List.range n).map fun i : Nat => ⟨m + 2 * (i : Int), m + 2 * (i : Int) + 1⟩
theorem markCallS_l0 (n : Nat) (m : Int) (hn : n ≤ 1048576) (hm : 0 ≤ m) (hm2 : m ≤ 1099511627776) : ∀ (d : Nat) (i : Int) (acc : List S41), 0 ≤ i → i + d = n → acc.length = n →
    (∀ j : Nat, (j : Int) < i → acc.getD j z41 = (markedC n m).getD j z41) → Ev (fun k => laws_markCallS.l0 k acc (m + 2 * i) i) (m + 2 * n, markedC n m) := by
  intro d
  induction d with
  | zero =>
    intro i acc h0 hi hl hacc
    refine ev_step (f := fun _ => some (m + 2 * i, acc)) (fun k => ?_) ?_
    · simp only [laws_markCallS.l0]; rw [if_neg (by omega)]
    · have e : acc = markedC n m := ext_getD z41 (by rw [hl]; simp [markedC]) (fun j hj => hacc j (by omega))
      rw [e, show m + 2 * i = m + 2 * n by omega]; exact ev_now _
  | succ d ih =>
    intro i acc h0 hi hl hacc
    refine ev_step (f := fun k => laws_markCallS.l0 k (acc.set i.toNat ⟨m + 2 * i, m + 2 * i + 1⟩) (m + 2 * (i + 1)) (i + 1)) (fun k => ?_) ?_
    · have hi' : i.toNat < acc.length := by omega
      simp only [laws_markCallS.l0, Option.bind_some, rd_T41]
      rw [if_pos (by omega), if_pos h0, w64 (by omega) (by omega), w64 (by omega) (by omega), w64 (by omega) (by omega), show m + 2 * i + 1 + 1 = m + 2 * (i + 1) by omega, List.set_set, getD_set _ _ _ _ _ hi']
      simp
    · refine ih (i + 1) _ (by omega) (by omega) (by simpa using hl) (fun j hj => ?_)
      rw [getD_set _ _ _ _ _ (by omega)]
      split
      · rename_i e
        subst e
        rw [markedC, getD_range_map _ _ _ _ (by omega), show ((i.toNat : Nat) : Int) = i by omega]
      · exact hacc j (by omega)
theorem markCallS_ev (l : List S41) (m : Int) (hn : l.length ≤ 1048576) (hm : 0 ≤ m) (hm2 : m ≤ 1099511627776) : Ev (fun k => laws_markCallS.f k l m) (m + 2 * (l.length : Int), markedC l.length m) := by
  unfold laws_markCallS.f
  have := markCallS_l0 l.length m hn hm hm2 l.length 0 l (by omega) (by omega) rfl (fun j hj => by omega)
  simpa using this

/-! calls: held -/
theorem heldCallS_l0 (n : Nat) (m : Int) (hn : n ≤ 1048576) (hm : 0 ≤ m) (hm2 : m ≤ 1099511627776) : ∀ (d : Nat) (i : Int), 0 ≤ i → i + d = n → Ev (fun k => laws_heldCallS.l0 k (markedC n m) (m + 2 * i) i) (m + 2 * n) := by
  intro d
  have hl : (markedC n m).length = n := by simp [markedC]
  induction d with
  | zero =>
    intro i h0 hi
    refine ev_step (f := fun _ => some (m + 2 * i)) (fun k => ?_) ?_
    · simp only [laws_heldCallS.l0]; rw [if_neg (by omega)]
    · rw [show m + 2 * i = m + 2 * n by omega]; exact ev_now _
  | succ d ih =>
    intro i h0 hi
    refine ev_step (f := fun k => laws_heldCallS.l0 k (markedC n m) (m + 2 * (i + 1)) (i + 1)) (fun k => ?_) (ih _ (by omega) (by omega))
    have e : rd_T41 (markedC n m) i = ⟨m + 2 * i, m + 2 * i + 1⟩ := by
      show (markedC n m).getD i.toNat z41 = _
      rw [markedC, getD_range_map _ _ _ _ (by omega), show ((i.toNat : Nat) : Int) = i by omega]
    simp only [laws_heldCallS.l0, e, if_true]
    rw [if_pos (by omega), if_pos h0, w64 (by omega) (by omega), w64 (by omega) (by omega), w64 (by omega) (by omega), if_pos rfl, show m + 2 * i + 1 + 1 = m + 2 * (i + 1) by omega]
theorem heldCallS_ev (n : Nat) (m : Int) (hn : n ≤ 1048576) (hm : 0 ≤ m) (hm2 : m ≤ 1099511627776) : Ev (fun k => laws_heldCallS.f k (markedC n m) m) (m + 2 * (n : Int)) := by
  unfold laws_heldCallS.f
  have := heldCallS_l0 n m hn hm hm2 n 0 (by omega) (by omega)
  simpa using this

theorem caCall_f (n a b : Int) (h1 : 1 ≤ n) (h2 : n ≤ 10) : spec_caCall.f n a b = some (isCallB n a b) := by
  unfold spec_caCall.f spec_l1In.f isCallB
  rw [w64 (by omega) (by omega)]
  by_cases g1 : 0 ≤ a
  · by_cases g2 : a ≤ n - 1
    · rw [w64 (by omega) (by omega)]
      by_cases g3 : a + 1 ≤ b <;> by_cases g4 : b ≤ n - 1
      · have e1 : a < b := by omega
        have e2 : b < n := by omega
        simp [g1, g2, g3, g4, e1, e2]
      · have e1 : a < b := by omega
        have e2 : ¬ b < n := by omega
        simp [g1, g2, g3, g4, e1, e2]
      · have e1 : ¬ a < b := by omega
        simp [g1, g2, g3, e1]
      · have e1 : ¬ a < b := by omega
        simp [g1, g2, g3, e1]
    · by_cases g3 : a < b
      · have e2 : ¬ b < n := by omega
        simp [g1, g2, e2]
      · simp [g1, g2, g3]
  · simp [g1]

/-! spec.caGood -/
theorem caFriends_f (n : Int) : spec_caFriends.f n = some (decide (1 ≤ n) && decide (n ≤ 10)) := by
  unfold spec_caFriends.f spec_l1In.f
  by_cases h1 : 1 ≤ n <;> by_cases h2 : n ≤ 10 <;> simp [h1, h2]
theorem areCallsB_true {n : Int} {cs : List S41} (h : areCallsB n cs = true) : 1 ≤ n ∧ n ≤ 10 ∧ cs.length ≤ 60 ∧ ∀ c ∈ cs, isCallB n c.f0 c.f1 = true := by
  simp [areCallsB] at h
  exact h

/-! news: what friends know, as numbers below 2^n -/
def orI (a b : Int) : Int := ((a.toNat ||| b.toNat : Nat) : Int)
def startP (n : Nat) : List Int := (List.range n).map fun i => ((2 ^ i : Nat) : Int)
def SmallP (n : Nat) (l : List Int) : Prop := l.length = n ∧ ∀ x ∈ l, 0 ≤ x ∧ x < ((2 ^ n : Nat) : Int)
theorem smallP_at {n : Nat} {l : List Int} (h : SmallP n l) (i : Nat) (hi : i < n) : 0 ≤ l.getD i 0 ∧ l.getD i 0 < ((2 ^ n : Nat) : Int) := by
  have hl : i < l.length := by rw [h.1]; exact hi
  rw [getD_at l i 0 hl]
  exact h.2 _ (List.getElem_mem hl)
theorem smallP_1024 {n : Nat} {l : List Int} (h : SmallP n l) (hn : n ≤ 10) (i : Nat) (hi : i < n) : 0 ≤ l.getD i 0 ∧ l.getD i 0 < 1024 := by
  have h1 := smallP_at h i hi
  have h2 : 2 ^ n ≤ 2 ^ 10 := Nat.pow_le_pow_right (by omega) hn
  omega
theorem smallP_start (n : Nat) : SmallP n (startP n) := by
  refine ⟨by simp [startP], fun x hx => ?_⟩
  obtain ⟨i, hi, rfl⟩ := List.mem_map.1 hx
  have : i < n := by simpa using hi
  have h2 : 2 ^ i < 2 ^ n := Nat.pow_lt_pow_right (by omega) this
  have h3 : 0 < 2 ^ i := Nat.two_pow_pos i
  omega
theorem orI_lt {n : Nat} {a b : Int} (ha : 0 ≤ a ∧ a < ((2 ^ n : Nat) : Int)) (hb : 0 ≤ b ∧ b < ((2 ^ n : Nat) : Int)) : 0 ≤ orI a b ∧ orI a b < ((2 ^ n : Nat) : Int) := by
  have h := Nat.or_lt_two_pow (x := a.toNat) (y := b.toNat) (n := n) (by omega) (by omega)
  unfold orI
  omega
theorem smallP_set {n : Nat} {l : List Int} (h : SmallP n l) (i : Nat) (x : Int) (hx : 0 ≤ x ∧ x < ((2 ^ n : Nat) : Int)) : SmallP n (l.set i x) := by
  refine ⟨by rw [List.length_set, h.1], fun y hy => ?_⟩
  rcases List.mem_or_eq_of_mem_set hy with h1 | h1
  · exact h.2 y h1
  · rw [h1]; exact hx
theorem or_i64 {a b : Int} (ha : 0 ≤ a ∧ a < 1024) (hb : 0 ≤ b ∧ b < 1024) : Go.bits .or .i64 a b = orI a b := by
  have h := (bits_nat .i64 10 (by decide) (fun n h0 h1 => by rw [IntKind.wrap_i64]; omega) a.toNat b.toNat (by omega) (by omega)).2
  rw [show ((a.toNat : Nat) : Int) = a by omega, show ((b.toNat : Nat) : Int) = b by omega] at h
  exact h
theorem or_u16 {a b : Int} (ha : 0 ≤ a ∧ a < 1024) (hb : 0 ≤ b ∧ b < 1024) : Go.bits .or .u16 a b = orI a b := by
  have h := (bits_nat .u16 10 (by decide) (fun n h0 h1 => by simp [IntKind.wrap, IntKind.bits, IntKind.signed]; omega) a.toNat b.toNat (by omega) (by omega)).2
  rw [show ((a.toNat : Nat) : Int) = a by omega, show ((b.toNat : Nat) : Int) = b by omega] at h
  exact h
theorem shl_i64_all : ∀ i : Fin 11, shl .i64 1 (i.val : Int) = ((2 ^ i.val : Nat) : Int) := by decide +kernel
theorem shl_u16_all : ∀ i : Fin 11, shl .u16 1 (i.val : Int) = ((2 ^ i.val : Nat) : Int) := by decide +kernel
theorem shl_i64_at (i : Int) (h0 : 0 ≤ i) (h1 : i ≤ 10) : shl .i64 1 i = ((2 ^ i.toNat : Nat) : Int) := by
  have := shl_i64_all ⟨i.toNat, by omega⟩
  simp only [Int.toNat_of_nonneg h0] at this
  exact this
theorem shl_u16_at (i : Int) (h0 : 0 ≤ i) (h1 : i ≤ 10) : shl .u16 1 i = ((2 ^ i.toNat : Nat) : Int) := by
  have := shl_u16_all ⟨i.toNat, by omega⟩
  simp only [Int.toNat_of_nonneg h0] at this
  exact this
theorem startP_take (n i : Nat) (h : i < n) : (startP n).take (i + 1) = (startP n).take i ++ [((2 ^ i : Nat) : Int)] := by
  rw [take_at (startP n) i 0 (by simpa [startP] using h), startP, getD_range_map _ _ _ _ h]
/-! single digits -/
theorem bit_i64_all : ∀ x : Fin 1024, ∀ a : Fin 10, Go.bits .and .i64 (shr .i64 (x.val : Int) (a.val : Int)) 1 = if x.val.testBit a.val then 1 else 0 := by decide +kernel
theorem bit_u16_all : ∀ x : Fin 1024, ∀ a : Fin 10, Go.bits .and .u16 (shr .u16 (x.val : Int) (a.val : Int)) 1 = if x.val.testBit a.val then 1 else 0 := by decide +kernel
def bitB (x a : Int) : Bool := x.toNat.testBit a.toNat
theorem bit_i64 {x a : Int} (hx : 0 ≤ x ∧ x < 1024) (h0 : 0 ≤ a) (h1 : a < 10) : (Go.bits .and .i64 (shr .i64 x a) 1 = 1) = (bitB x a = true) := by
  have h := bit_i64_all ⟨x.toNat, by omega⟩ ⟨a.toNat, by omega⟩
  simp only [Int.toNat_of_nonneg hx.1, Int.toNat_of_nonneg h0] at h
  rw [h, bitB]
  cases x.toNat.testBit a.toNat <;> simp
theorem bit_u16 {x a : Int} (hx : 0 ≤ x ∧ x < 1024) (h0 : 0 ≤ a) (h1 : a < 10) : (Go.bits .and .u16 (shr .u16 x a) 1 = 1) = (bitB x a = true) := by
  have h := bit_u16_all ⟨x.toNat, by omega⟩ ⟨a.toNat, by omega⟩
  simp only [Int.toNat_of_nonneg hx.1, Int.toNat_of_nonneg h0] at h
  rw [h, bitB]
  cases x.toNat.testBit a.toNat <;> simp

/-! networks: strictly increasing lists of calls -/
theorem isCallB_bd {n a b : Int} (h : isCallB n a b = true) : 0 ≤ a ∧ a < b ∧ b < n := by simpa [isCallB] using h
def lessB (c d : S41) : Bool := decide (c.f0 < d.f0) || (decide (c.f0 = d.f0) && decide (c.f1 < d.f1))
def pairsB (n : Int) : Option S41 → List S41 → Bool
  | _, [] => true
  | none, c :: cs => isCallB n c.f0 c.f1 && pairsB n (some c) cs
  | some p, c :: cs => isCallB n c.f0 c.f1 && (lessB p c && pairsB n (some c) cs)
def friendsB (n : Int) : Bool := decide (1 ≤ n) && decide (n ≤ 10)
def arePairsB (n : Int) (l : List S41) : Bool := friendsB n && pairsB n none l
def codeP (c : S41) : Nat := 10 * c.f0.toNat + c.f1.toNat
def validN (n : Nat) (x : Nat) : Bool := decide (x / 10 < x % 10) && decide (x % 10 < n)
theorem valid_count : ∀ n : Fin 11, (List.range 100).countP (validN n.val) = n.val * (n.val - 1) / 2 := by decide +kernel
theorem valid_code {n : Int} (hn : n ≤ 10) {c : S41} (h : isCallB n c.f0 c.f1 = true) : validN n.toNat (codeP c) = true ∧ codeP c < 100 := by
  obtain ⟨h1, h2, h3⟩ := isCallB_bd h
  have e1 : codeP c / 10 = c.f0.toNat := by unfold codeP; omega
  have e2 : codeP c % 10 = c.f1.toNat := by unfold codeP; omega
  refine ⟨?_, by unfold codeP; omega⟩
  simp only [validN, e1, e2, Bool.and_eq_true, decide_eq_true_eq]
  omega
theorem less_code {n : Int} (hn : n ≤ 10) {c d : S41} (hc : isCallB n c.f0 c.f1 = true) (hd : isCallB n d.f0 d.f1 = true) (h : lessB c d = true) : codeP c < codeP d := by
  obtain ⟨h1, h2, h3⟩ := isCallB_bd hc
  obtain ⟨g1, g2, g3⟩ := isCallB_bd hd
  simp [lessB] at h
  unfold codeP
  omega
theorem range_count (p : Nat → Bool) : ∀ (m s x : Nat), s ≤ x → x < s + m → p x = true → 1 + (List.range' (x + 1) (s + m - (x + 1))).countP p ≤ (List.range' s m).countP p
  | 0, s, x, h1, h2, _ => by omega
  | m + 1, s, x, h1, h2, hp => by
    rw [List.range'_succ, List.countP_cons]
    rcases Nat.lt_or_ge s x with h | h
    · have ih := range_count p m (s + 1) x h (by omega) hp
      rw [show s + (m + 1) - (x + 1) = s + 1 + m - (x + 1) by omega]
      omega
    · have e : x = s := by omega
      subst e
      rw [if_pos hp, show x + (m + 1) - (x + 1) = m by omega]
      omega
theorem pairs_le {n : Int} (hn : n ≤ 10) : ∀ (l : List S41) (p : S41) (_ : isCallB n p.f0 p.f1 = true), pairsB n (some p) l = true → l.length ≤ (List.range' (codeP p + 1) (100 - (codeP p + 1))).countP (validN n.toNat)
  | [], p, _, _ => Nat.zero_le _
  | c :: cs, p, hp, h => by
    simp only [pairsB, Bool.and_eq_true] at h
    obtain ⟨h1, h2, h3⟩ := h
    have ih := pairs_le hn cs c h1 h3
    have v := valid_code hn h1
    have vp := valid_code hn hp
    have lt := less_code hn hp h1 h2
    have := range_count (validN n.toNat) (100 - (codeP p + 1)) (codeP p + 1) (codeP c) lt (by omega) v.1
    rw [show codeP p + 1 + (100 - (codeP p + 1)) - (codeP c + 1) = 100 - (codeP c + 1) by omega] at this
    rw [List.length_cons]
    omega
theorem pairs_length {n : Int} {l : List S41} (h : arePairsB n l = true) : l.length ≤ n.toNat * (n.toNat - 1) / 2 := by
  simp only [arePairsB, friendsB, Bool.and_eq_true, decide_eq_true_eq] at h
  obtain ⟨⟨h1, h2⟩, h3⟩ := h
  have hv := valid_count ⟨n.toNat, by omega⟩
  simp only at hv
  rw [← hv, List.range_eq_range']
  cases l with
  | nil => exact Nat.zero_le _
  | cons c cs =>
    simp only [pairsB, Bool.and_eq_true] at h3
    have v := valid_code h2 h3.1
    have := range_count (validN n.toNat) 100 0 (codeP c) (Nat.zero_le _) (by omega) v.1
    have g := pairs_le h2 cs c h3.1 h3.2
    rw [show 0 + 100 - (codeP c + 1) = 100 - (codeP c + 1) by omega] at this
    rw [List.length_cons]
    omega
theorem pairs_45 {n : Int} {l : List S41} (h : arePairsB n l = true) : 1 ≤ n ∧ n ≤ 10 ∧ l.length ≤ 45 := by
  have hl := pairs_length h
  simp only [arePairsB, friendsB, Bool.and_eq_true, decide_eq_true_eq] at h
  obtain ⟨⟨h1, h2⟩, h3⟩ := h
  have : n.toNat * (n.toNat - 1) ≤ 10 * 9 := Nat.mul_le_mul (by omega) (by omega)
  exact ⟨h1, h2, by omega⟩
theorem pairs_all {n : Int} : ∀ (l : List S41) (o : Option S41), pairsB n o l = true → ∀ c ∈ l, isCallB n c.f0 c.f1 = true
  | [], _, _ => by simp
  | c :: cs, o, h => by
    have h' : isCallB n c.f0 c.f1 = true ∧ pairsB n (some c) cs = true := by
      cases o with
      | none => simpa [pairsB] using h
      | some p => simp only [pairsB, Bool.and_eq_true] at h; exact ⟨h.1, h.2.2⟩
    intro d hd
    rcases List.mem_cons.1 hd with rfl | hd
    · exact h'.1
    · exact pairs_all cs _ h'.2 d hd
theorem arePairs_all {n : Int} {l : List S41} (h : arePairsB n l = true) : ∀ c ∈ l, isCallB n c.f0 c.f1 = true := by
  simp only [arePairsB, Bool.and_eq_true] at h
  exact pairs_all l none h.2
def prevP (l : List S41) (i : Nat) : Option S41 := if i = 0 then none else some (l.getD (i - 1) z41)
theorem pairs_step (n : Int) (l : List S41) (i : Nat) (h : i < l.length) : pairsB n (prevP l i) (l.drop i) = (isCallB n (l.getD i z41).f0 (l.getD i z41).f1 && ((i = 0 || lessB (l.getD (i - 1) z41) (l.getD i z41)) && pairsB n (prevP l (i + 1)) (l.drop (i + 1)))) := by
  rw [drop_at l i z41 h]
  have e : prevP l (i + 1) = some (l.getD i z41) := by simp [prevP]
  rw [e]
  unfold prevP
  by_cases hi : i = 0
  · rw [if_pos hi]; simp [pairsB, hi]
  · rw [if_neg hi]; simp [pairsB, hi]
theorem areFriendsN_f (n : Int) : impl_areFriends.f n = some (friendsB n) := by
  unfold impl_areFriends.f impl_within.f friendsB
  by_cases h1 : 1 ≤ n <;> by_cases h2 : n ≤ 10 <;> simp [h1, h2]
theorem most_pairs : ∀ n : Fin 11, wrap64 (Int.tdiv (wrap64 ((n.val : Int) * (wrap64 ((n.val : Int) - 1)))) 2) = ((n.val * (n.val - 1) / 2 : Nat) : Int) := by decide +kernel
theorem compare_f (a b : Int) : cmp_Compare_int.f a b = some (if a < b then -1 else if a > b then 1 else 0) := by
  unfold cmp_Compare_int.f cmp_isNaN_int.f
  simp only [Option.bind_some, bne_self_eq_false, Bool.false_eq_true, if_false]
  split
  · rfl
  · split <;> rfl
def cmpP (c d : S41) : Int := if c.f0 < d.f0 then -1 else if c.f0 > d.f0 then 1 else if c.f1 < d.f1 then -1 else if c.f1 > d.f1 then 1 else 0
theorem or2_f (x y : Int) (k : Nat) : cmp_Or_int.f (k + 3) [x, y] = some (if x = 0 then y else x) := by
  unfold cmp_Or_int.f
  by_cases hx : x = 0
  · by_cases hy : y = 0
    · simp [cmp_Or_int.l0, rd, hx, hy, wrap64]
    · simp [cmp_Or_int.l0, rd, hx, hy, wrap64]
  · simp [cmp_Or_int.l0, rd, hx, wrap64]
theorem compareCalls_ev (c d : S41) : Ev (fun k => impl_compareCalls.f k c.f0 c.f1 d.f0 d.f1) (cmpP c d) := by
  refine ⟨3, fun k hk => ?_⟩
  obtain ⟨j, rfl⟩ : ∃ j, k = j + 3 := ⟨k - 3, by omega⟩
  unfold impl_compareCalls.f
  simp only [compare_f, Option.bind_some, or2_f]
  congr 1
  unfold cmpP
  by_cases h1 : c.f0 < d.f0
  · simp [h1]
  · by_cases h2 : c.f0 > d.f0
    · simp [h1, h2]
    · simp [h1, h2]
theorem cmpP_less (c d : S41) : (cmpP c d ≥ 0) = (lessB c d = false) := by
  unfold cmpP lessB
  by_cases h1 : c.f0 < d.f0
  · simp [h1]
  · by_cases h2 : c.f0 > d.f0
    · have h3 : ¬ c.f0 = d.f0 := by omega
      simp [h1, h2, h3]
    · have h3 : c.f0 = d.f0 := by omega
      by_cases h4 : c.f1 < d.f1
      · simp [h3, h4]
      · by_cases h5 : c.f1 > d.f1 <;> simp [h3, h4, h5]
/-! rows of rows: compared, marked -/
def totC : List (List S41) → Int
  | [] => 0
  | r :: rs => 2 * (r.length : Int) + totC rs
def markedRC : List (List S41) → Int → List (List S41)
  | [], _ => []
  | r :: rs, m => markedC r.length m :: markedRC rs (m + 2 * (r.length : Int))
def RowsC (l : List (List S41)) : Prop := l.length ≤ 1048576 ∧ ∀ r ∈ l, r.length ≤ 1048576
theorem totC_nonneg : ∀ (l : List (List S41)), 0 ≤ totC l
  | [] => Int.le_refl _
  | r :: rs => by have := totC_nonneg rs; simp only [totC]; omega
theorem totC_le (b : Nat) : ∀ (l : List (List S41)), (∀ r ∈ l, r.length ≤ b) → totC l ≤ 2 * (b : Int) * l.length
  | [], _ => by simp [totC]
  | r :: rs, h => by
    have h1 := totC_le b rs (fun x hx => h x (List.mem_cons_of_mem _ hx))
    have h2 := h r (List.mem_cons_self)
    have e : 2 * (b : Int) * ((r :: rs).length : Nat) = 2 * (b : Int) * (rs.length : Nat) + 2 * (b : Int) := by
      rw [List.length_cons, Int.natCast_succ, Int.mul_add, Int.mul_one]
    rw [e]
    simp only [totC]
    omega
theorem eqCallSS_l0 : ∀ (rest done : List (List S41)), done.length + rest.length ≤ 1048576 → (∀ r ∈ rest, r.length ≤ 1048576) →
    Ev (fun k => laws_eqCallSS.l0 k (done ++ rest) (done ++ rest) (done.length : Int)) true
  | [], done, h, _ => by
    refine ev_step (f := fun _ => some true) (fun k => ?_) (ev_now _)
    simp only [laws_eqCallSS.l0]
    rw [if_neg (by simp)]
  | r :: rest, done, h, hr => by
    simp only [List.length_cons] at h
    have e : rd_L3 (done ++ r :: rest) (done.length : Int) = r := by
      show (done ++ r :: rest).getD ((done.length : Int)).toNat [] = r
      rw [Int.toNat_natCast, getD_len]
    refine ev_step (f := fun k => (laws_eqCallS.f k r r).bind fun t => if t = true then laws_eqCallSS.l0 k (done ++ r :: rest) (done ++ r :: rest) ((done.length : Int) + 1) else some false) (fun k => ?_) ?_
    · simp only [laws_eqCallSS.l0, e]
      rw [if_pos (by rw [List.length_append, List.length_cons]; omega), if_pos (by omega), if_pos (by rw [List.length_append, List.length_cons]; omega), w64 (by omega) (by omega)]
    · refine Ev.bind (eqCallS_ev r (hr r (List.mem_cons_self))) ?_
      simp only [if_true]
      have := eqCallSS_l0 rest (done ++ [r]) (by rw [List.length_append, List.length_singleton]; omega) (fun x hx => hr x (List.mem_cons_of_mem _ hx))
      rw [List.append_assoc, List.singleton_append, List.length_append, List.length_singleton] at this
      simpa using this
theorem eqCallSS_ev (a : List (List S41)) (h : RowsC a) : Ev (fun k => laws_eqCallSS.f k a a) true := by
  unfold laws_eqCallSS.f
  simp only [if_true]
  have := eqCallSS_l0 a [] (by simpa using h.1) h.2
  simpa using this
theorem markCallSS_l0 : ∀ (rest done : List (List S41)) (m : Int), done.length + rest.length ≤ 1048576 → (∀ r ∈ rest, r.length ≤ 1048576) → 0 ≤ m → m + totC rest ≤ 1099511627776 →
    Ev (fun k => laws_markCallSS.l0 k (done ++ rest) m (done.length : Int)) (m + totC rest, done ++ markedRC rest m)
  | [], done, m, h, _, _, _ => by
    refine ev_step (f := fun _ => some (m, done ++ [])) (fun k => ?_) ?_
    · simp only [laws_markCallSS.l0]
      rw [if_neg (by simp)]
    · simp only [totC, Int.add_zero, markedRC]; exact ev_now _
  | r :: rest, done, m, h, hr, hm, hb => by
    simp only [List.length_cons] at h
    simp only [totC] at hb
    have hn := totC_nonneg rest
    refine ev_step (f := fun k => (laws_markCallS.f k r m).bind fun t => laws_markCallSS.l0 k ((done ++ r :: rest).set done.length t.2) t.1 ((done.length : Int) + 1)) (fun k => ?_) ?_
    · simp only [laws_markCallSS.l0, Int.toNat_natCast, getD_len]
      rw [if_pos (by rw [List.length_append, List.length_cons]; omega), if_pos (by omega), w64 (by omega) (by omega)]
    · refine Ev.bind (markCallS_ev r m (hr r (List.mem_cons_self)) hm (by omega)) ?_
      have := markCallSS_l0 rest (done ++ [markedC r.length m]) (m + 2 * (r.length : Int)) (by rw [List.length_append, List.length_singleton]; omega) (fun x hx => hr x (List.mem_cons_of_mem _ hx)) (by omega) (by omega)
      rw [List.append_assoc, List.singleton_append, List.length_append, List.length_singleton] at this
      simp only [set_len, totC, markedRC]
      rw [List.append_assoc, List.singleton_append, Int.add_assoc] at this
      simpa using this
theorem markCallSS_ev (l : List (List S41)) (m : Int) (h : RowsC l) (hm : 0 ≤ m) (hb : m + totC l ≤ 1099511627776) : Ev (fun k => laws_markCallSS.f k l m) (m + totC l, markedRC l m) := by
  unfold laws_markCallSS.f
  have := markCallSS_l0 l [] m (by simpa using h.1) h.2 hm hb
  simpa using this
theorem heldCallSS_l0 : ∀ (rest done : List (List S41)) (m : Int), done.length + rest.length ≤ 1048576 → (∀ r ∈ rest, r.length ≤ 1048576) → 0 ≤ m → m + totC rest ≤ 1099511627776 →
    Ev (fun k => laws_heldCallSS.l0 k (done ++ markedRC rest m) m (done.length : Int)) (m + totC rest)
  | [], done, m, h, _, _, _ => by
    show Ev (fun k => laws_heldCallSS.l0 k (done ++ []) m (done.length : Int)) (m + totC [])
    refine ev_step (f := fun _ => some m) (fun k => ?_) ?_
    · have hh : ¬ ((done.length : Int) < ((done ++ ([] : List (List S41))).length : Int)) := by simp
      simp only [laws_heldCallSS.l0]
      rw [if_neg hh]
    · simp only [totC, Int.add_zero]; exact ev_now _
  | r :: rest, done, m, h, hr, hm, hb => by
    simp only [List.length_cons] at h
    simp only [totC] at hb
    have hn := totC_nonneg rest
    have e : rd_L3 (done ++ markedC r.length m :: markedRC rest (m + 2 * (r.length : Int))) (done.length : Int) = markedC r.length m := by
      show (done ++ markedC r.length m :: markedRC rest (m + 2 * (r.length : Int))).getD ((done.length : Int)).toNat [] = _
      rw [Int.toNat_natCast, getD_len]
    show Ev (fun k => laws_heldCallSS.l0 k (done ++ markedC r.length m :: markedRC rest (m + 2 * (r.length : Int))) m (done.length : Int)) _
    refine ev_step (f := fun k => (laws_heldCallS.f k (markedC r.length m) m).bind fun t => if t < 0 then some (-1) else laws_heldCallSS.l0 k (done ++ markedC r.length m :: markedRC rest (m + 2 * (r.length : Int))) t ((done.length : Int) + 1)) (fun k => ?_) ?_
    · simp only [laws_heldCallSS.l0, e]
      rw [if_pos (by rw [List.length_append, List.length_cons]; omega), if_pos (by omega), w64 (by omega) (by omega)]
    · refine Ev.bind (heldCallS_ev r.length m (hr r (List.mem_cons_self)) hm (by omega)) ?_
      have hp : ¬ m + 2 * (r.length : Int) < 0 := by omega
      simp only [if_neg hp]
      have := heldCallSS_l0 rest (done ++ [markedC r.length m]) (m + 2 * (r.length : Int)) (by rw [List.length_append, List.length_singleton]; omega) (fun x hx => hr x (List.mem_cons_of_mem _ hx)) (by omega) (by omega)
      rw [List.append_assoc, List.singleton_append, List.length_append, List.length_singleton] at this
      simp only [totC]
      rw [Int.add_assoc] at this
      simpa using this
theorem heldCallSS_ev (l : List (List S41)) (m : Int) (h : RowsC l) (hm : 0 ≤ m) (hb : m + totC l ≤ 1099511627776) : Ev (fun k => laws_heldCallSS.f k (markedRC l m) m) (m + totC l) := by
  unfold laws_heldCallSS.f
  have := heldCallSS_l0 l [] m (by simpa using h.1) h.2 hm hb
  simpa using this
theorem rowsC_tot {l : List (List S41)} (h1 : l.length ≤ 1000) (h2 : ∀ r ∈ l, r.length ≤ 1048576) : RowsC l ∧ 1 + totC l ≤ 1099511627776 := by
  refine ⟨⟨by omega, h2⟩, ?_⟩
  have := totC_le 1048576 l h2
  omega

/-! rounds: whether rows of calls are rounds -/
theorem pow_small : ∀ a : Fin 10, 2 ^ a.val < 1024 := by decide
theorem ownS (a : Int) (h0 : 0 ≤ a) (h1 : a < 10) : 0 ≤ ((2 ^ a.toNat : Nat) : Int) ∧ ((2 ^ a.toNat : Nat) : Int) < 1024 := by
  have := pow_small ⟨a.toNat, by omega⟩
  exact ⟨Int.natCast_nonneg _, Int.ofNat_lt.mpr this⟩
theorem orS {a b : Int} (ha : 0 ≤ a ∧ a < 1024) (hb : 0 ≤ b ∧ b < 1024) : 0 ≤ orI a b ∧ orI a b < 1024 := by
  have h := orI_lt (n := 10) (a := a) (b := b) (by simpa using ha) (by simpa using hb)
  simpa using h
def pairOf (c : S41) : Int := orI ((2 ^ c.f0.toNat : Nat) : Int) ((2 ^ c.f1.toNat : Nat) : Int)
def roundAt (n : Int) (l : List S41) : Nat → Nat → Int → Bool
  | 0, _, _ => true
  | d + 1, i, s => isCallB n (l.getD i z41).f0 (l.getD i z41).f1 && (!bitB s (l.getD i z41).f0 && (!bitB s (l.getD i z41).f1 && ((decide (i = 0) || lessB (l.getD (i - 1) z41) (l.getD i z41)) && roundAt n l d (i + 1) (orI s (pairOf (l.getD i z41))))))
def isRoundB (n : Int) (l : List S41) : Bool := roundAt n l l.length 0 0
def areRoundsB (n : Int) (l : List (List S41)) : Bool := decide (1 ≤ n) && (decide (n ≤ 10) && (decide (l.length ≤ 20) && l.all (isRoundB n)))
theorem roLess_f (c d : S41) : spec_roLess.f c.f0 c.f1 d.f0 d.f1 = some (lessB c d) := by
  unfold spec_roLess.f lessB
  by_cases h1 : c.f0 < d.f0
  · simp [h1]
  · by_cases h2 : c.f0 = d.f0 <;> simp [h1, h2]
theorem roGood_l1 (n : Int) (h1 : 1 ≤ n) (h2 : n ≤ 10) (r : List S41) (h : r.length ≤ 1048576) (all : List (List S41)) (j : Nat) (hj : j ≤ 1048576) (R : Bool) : ∀ (d i : Nat) (s : Int), i + d = r.length → 0 ≤ s ∧ s < 1024 →
    (roundAt n r d i s = false → R = false) → (roundAt n r d i s = true → Ev (fun k => spec_roGood.l0 k n all (all.length : Int) ((j + 1 : Nat) : Int)) R) →
    Ev (fun k => spec_roGood.l1 k n r s all (all.length : Int) (j : Int) r (r.length : Int) (i : Int)) R := by
  intro d
  induction d with
  | zero =>
    intro i s hi hs g1 g2
    have hi' : ¬ (i : Int) < (r.length : Int) := by omega
    exact Ev.step (fun k => by simp only [spec_roGood.l1, if_neg hi', w64 (show -9223372036854775808 ≤ (j : Int) + 1 by omega) (by omega)] <;> exact rfl) (g2 rfl)
  | succ d ih =>
    intro i s hi hs g1 g2
    have q1 : (i : Int) < (r.length : Int) := by omega
    have q2 : (0 : Int) ≤ (i : Int) := by omega
    have e : rd_T41 r (i : Int) = r.getD i z41 := rfl
    rw [roundAt] at g1 g2
    cases hq : isCallB n (r.getD i z41).f0 (r.getD i z41).f1 with
    | false =>
      rw [hq, Bool.false_and] at g1
      rw [g1 rfl]
      exact Ev.step (fun k => by simp only [spec_roGood.l1, if_pos q1, if_pos q2, e, caCall_f n _ _ h1 h2, Option.bind_some, hq, Bool.false_eq_true, if_false] <;> exact rfl) (ev_now _)
    | true =>
      obtain ⟨a1, a2, a3⟩ := isCallB_bd hq
      have b1 := bit_i64 (a := (r.getD i z41).f0) hs a1 (by omega)
      have b2 := bit_i64 (a := (r.getD i z41).f1) hs (by omega) (by omega)
      have q3 : 0 ≤ (r.getD i z41).f1 := by omega
      rw [hq, Bool.true_and] at g1 g2
      cases hb1 : bitB s (r.getD i z41).f0 with
      | true =>
        rw [hb1, Bool.not_true, Bool.false_and] at g1
        rw [g1 rfl]
        exact Ev.step (fun k => by simp only [spec_roGood.l1, if_pos q1, if_pos q2, e, caCall_f n _ _ h1 h2, Option.bind_some, hq, if_true, if_pos a1, b1, hb1] <;> exact rfl) (ev_now _)
      | false =>
        rw [hb1, Bool.not_false, Bool.true_and] at g1 g2
        cases hb2 : bitB s (r.getD i z41).f1 with
        | true =>
          rw [hb2, Bool.not_true, Bool.false_and] at g1
          rw [g1 rfl]
          exact Ev.step (fun k => by simp only [spec_roGood.l1, if_pos q1, if_pos q2, e, caCall_f n _ _ h1 h2, Option.bind_some, hq, if_true, if_pos a1, b1, hb1, Bool.false_eq_true, if_false, if_pos q3, b2, hb2] <;> exact rfl) (ev_now _)
        | false =>
          rw [hb2, Bool.not_false, Bool.true_and] at g1 g2
          have o1 := ownS (r.getD i z41).f0 a1 (by omega)
          have o2 := ownS (r.getD i z41).f1 q3 (by omega)
          have eo : Go.bits .or .i64 s (Go.bits .or .i64 (shl .i64 1 (r.getD i z41).f0) (shl .i64 1 (r.getD i z41).f1)) = orI s (pairOf (r.getD i z41)) := by
            rw [shl_i64_at _ a1 (by omega), shl_i64_at _ q3 (by omega), or_i64 o1 o2, or_i64 hs (orS o1 o2)]; rfl
          have EI := Aside0.mk (w64 (show -9223372036854775808 ≤ (i : Int) + 1 by omega) (by omega))
          have ih' := ih (i + 1) (orI s (pairOf (r.getD i z41))) (by omega) (orS hs (orS o1 o2))
          by_cases h0 : i = 0
          · have q4 : ¬ (i : Int) > 0 := by omega
            rw [decide_eq_true h0, Bool.true_or, Bool.true_and] at g1 g2
            exact Ev.step (fun k => by simp only [spec_roGood.l1, if_pos q1, if_pos q2, e, caCall_f n _ _ h1 h2, Option.bind_some, hq, if_true, if_pos a1, b1, hb1, Bool.false_eq_true, if_false, if_pos q3, b2, hb2, if_neg q4, eo, EI.out] <;> exact rfl) (ih' g1 g2)
          · have q4 : (i : Int) > 0 := by omega
            have EP : Aside0 (wrap64 ((i : Int) - 1) = ((i - 1 : Nat) : Int)) := ⟨by rw [w64 (by omega) (by omega)]; omega⟩
            have q5 : (0 : Int) ≤ ((i - 1 : Nat) : Int) := by omega
            have q6 : ((i - 1 : Nat) : Int) < (r.length : Int) := by omega
            have e' : rd_T41 r ((i - 1 : Nat) : Int) = r.getD (i - 1) z41 := rfl
            rw [decide_eq_false h0, Bool.false_or] at g1 g2
            cases hl : lessB (r.getD (i - 1) z41) (r.getD i z41) with
            | false =>
              rw [hl, Bool.false_and] at g1
              rw [g1 rfl]
              exact Ev.step (fun k => by simp only [spec_roGood.l1, if_pos q1, if_pos q2, e, caCall_f n _ _ h1 h2, Option.bind_some, hq, if_true, if_pos a1, b1, hb1, Bool.false_eq_true, if_false, if_pos q3, b2, hb2, if_pos q4, EP.out, if_pos q5, if_pos q6, e', roLess_f, hl] <;> exact rfl) (ev_now _)
            | true =>
              rw [hl, Bool.true_and] at g1 g2
              exact Ev.step (fun k => by simp only [spec_roGood.l1, if_pos q1, if_pos q2, e, caCall_f n _ _ h1 h2, Option.bind_some, hq, if_true, if_pos a1, b1, hb1, Bool.false_eq_true, if_false, if_pos q3, b2, hb2, if_pos q4, EP.out, if_pos q5, if_pos q6, e', roLess_f, hl, eo, EI.out] <;> exact rfl) (ih' g1 g2)
theorem roGood_l0 (n : Int) (h1 : 1 ≤ n) (h2 : n ≤ 10) (all : List (List S41)) (h : all.length ≤ 1048576 ∧ ∀ r ∈ all, r.length ≤ 1048576) : ∀ (d j : Nat), j + d = all.length → Ev (fun k => spec_roGood.l0 k n all (all.length : Int) (j : Int)) ((all.drop j).all (isRoundB n)) := by
  intro d
  induction d with
  | zero =>
    intro j hj
    have hj' : ¬ (j : Int) < (all.length : Int) := by omega
    refine Ev.step (fun k => by simp only [spec_roGood.l0, if_neg hj'] <;> exact rfl) ?_
    rw [List.drop_eq_nil_of_le (by omega)]; exact ev_now _
  | succ d ih =>
    intro j hj
    have q1 : (j : Int) < (all.length : Int) := by omega
    have q2 : (0 : Int) ≤ (j : Int) := by omega
    have hm : all.getD j [] ∈ all := by rw [getD_at _ _ _ (show j < all.length by omega)]; exact List.getElem_mem _
    have hb := h.1
    rw [drop_at all j [] (by omega), List.all_cons]
    refine Ev.step (fun k => by simp only [spec_roGood.l0, if_pos q1, if_pos q2] <;> exact rfl) ?_
    refine roGood_l1 n h1 h2 (all.getD j []) (h.2 _ hm) all j (by omega) _ (all.getD j []).length 0 0 (by omega) (by omega) (fun hf => ?_) (fun ht => ?_)
    · have hf' : isRoundB n (all.getD j []) = false := hf
      rw [hf', Bool.false_and]
    · have ht' : isRoundB n (all.getD j []) = true := ht
      rw [ht', Bool.true_and]
      exact ih (j + 1) (by omega)
theorem roGood_ev (n : Int) (l : List (List S41)) (h : l.length ≤ 1048576 ∧ ∀ r ∈ l, r.length ≤ 1048576) : Ev (fun k => spec_roGood.f k n l) (areRoundsB n l) := by
  unfold spec_roGood.f areRoundsB
  simp only [caFriends_f, Option.bind_some]
  by_cases h1 : 1 ≤ n
  · by_cases h2 : n ≤ 10
    · by_cases h3 : l.length ≤ 20
      · have h3' : ¬ (l.length : Int) > 20 := by omega
        simp only [h1, h2, h3, h3', decide_true, decide_false, Bool.true_and, if_true]
        have := roGood_l0 n h1 h2 l h l.length 0 (by omega)
        exact Ev.step (fun k => by simp only [spec_roGood.j0, Bool.false_eq_true, if_false] <;> exact rfl) (by simpa using this)
      · have h3' : (l.length : Int) > 20 := by omega
        simp only [h1, h2, h3, h3', decide_true, decide_false, Bool.true_and, Bool.false_and, if_true]
        exact Ev.step (fun k => by simp only [spec_roGood.j0, if_true] <;> exact rfl) (ev_now _)
    · simp only [h1, h2, decide_true, decide_false, Bool.true_and, Bool.false_and, Bool.false_eq_true, if_false]
      exact Ev.step (fun k => by simp only [spec_roGood.j0, if_true] <;> exact rfl) (ev_now _)
  · simp only [h1, decide_false, Bool.false_and, Bool.false_eq_true, if_false]
    exact Ev.step (fun k => by simp only [spec_roGood.j0, if_true] <;> exact rfl) (ev_now _)
theorem isRound_l0 (n : Int) (h2 : n ≤ 10) (r : List S41) (h : r.length ≤ 1048576) : ∀ (d i : Nat) (s : Int), i + d = r.length → 0 ≤ s ∧ s < 1024 →
    Ev (fun k => impl_isRound.l0 k n r s r (r.length : Int) (i : Int)) (roundAt n r d i s) := by
  intro d
  induction d with
  | zero =>
    intro i s hi hs
    have hi' : ¬ (i : Int) < (r.length : Int) := by omega
    exact Ev.step (fun k => by simp only [impl_isRound.l0, if_neg hi'] <;> exact rfl) (ev_now _)
  | succ d ih =>
    intro i s hi hs
    have q1 : (i : Int) < (r.length : Int) := by omega
    have q2 : (0 : Int) ≤ (i : Int) := by omega
    have e : rd_T41 r (i : Int) = r.getD i z41 := rfl
    rw [roundAt]
    cases hq : isCallB n (r.getD i z41).f0 (r.getD i z41).f1 with
    | false =>
      rw [Bool.false_and]
      exact Ev.step (fun k => by simp only [impl_isRound.l0, if_pos q1, if_pos q2, e, isCall_f, Option.bind_some, hq, Bool.false_eq_true, if_false] <;> exact rfl) (ev_now _)
    | true =>
      obtain ⟨a1, a2, a3⟩ := isCallB_bd hq
      have b1 := bit_u16 (a := (r.getD i z41).f0) hs a1 (by omega)
      have b2 := bit_u16 (a := (r.getD i z41).f1) hs (by omega) (by omega)
      have q3 : 0 ≤ (r.getD i z41).f1 := by omega
      rw [Bool.true_and]
      cases hb1 : bitB s (r.getD i z41).f0 with
      | true =>
        rw [Bool.not_true, Bool.false_and]
        exact Ev.step (fun k => by simp only [impl_isRound.l0, if_pos q1, if_pos q2, e, isCall_f, Option.bind_some, hq, if_true, if_pos a1, b1, hb1] <;> exact rfl) (ev_now _)
      | false =>
        rw [Bool.not_false, Bool.true_and]
        cases hb2 : bitB s (r.getD i z41).f1 with
        | true =>
          rw [Bool.not_true, Bool.false_and]
          exact Ev.step (fun k => by simp only [impl_isRound.l0, if_pos q1, if_pos q2, e, isCall_f, Option.bind_some, hq, if_true, if_pos a1, b1, hb1, Bool.false_eq_true, if_false, if_pos q3, b2, hb2] <;> exact rfl) (ev_now _)
        | false =>
          rw [Bool.not_false, Bool.true_and]
          have o1 := ownS (r.getD i z41).f0 a1 (by omega)
          have o2 := ownS (r.getD i z41).f1 q3 (by omega)
          have eo : Go.bits .or .u16 s (Go.bits .or .u16 (shl .u16 1 (r.getD i z41).f0) (shl .u16 1 (r.getD i z41).f1)) = orI s (pairOf (r.getD i z41)) := by
            rw [shl_u16_at _ a1 (by omega), shl_u16_at _ q3 (by omega), or_u16 o1 o2, or_u16 hs (orS o1 o2)]; rfl
          have EI := Aside0.mk (w64 (show -9223372036854775808 ≤ (i : Int) + 1 by omega) (by omega))
          have ih' := ih (i + 1) (orI s (pairOf (r.getD i z41))) (by omega) (orS hs (orS o1 o2))
          by_cases h0 : i = 0
          · have q4 : ¬ (i : Int) > 0 := by omega
            rw [decide_eq_true h0, Bool.true_or, Bool.true_and]
            exact Ev.step (fun k => by simp only [impl_isRound.l0, if_pos q1, if_pos q2, e, isCall_f, Option.bind_some, hq, if_true, if_pos a1, b1, hb1, Bool.false_eq_true, if_false, if_pos q3, b2, hb2, if_neg q4, eo, EI.out] <;> exact rfl) ih'
          · have q4 : (i : Int) > 0 := by omega
            have EP : Aside0 (wrap64 ((i : Int) - 1) = ((i - 1 : Nat) : Int)) := ⟨by rw [w64 (by omega) (by omega)]; omega⟩
            have q5 : (0 : Int) ≤ ((i - 1 : Nat) : Int) := by omega
            have q6 : ((i - 1 : Nat) : Int) < (r.length : Int) := by omega
            have e' : rd_T41 r ((i - 1 : Nat) : Int) = r.getD (i - 1) z41 := rfl
            rw [decide_eq_false h0, Bool.false_or]
            refine Ev.step (fun k => by simp only [impl_isRound.l0, if_pos q1, if_pos q2, e, isCall_f, Option.bind_some, hq, if_true, if_pos a1, b1, hb1, Bool.false_eq_true, if_false, if_pos q3, b2, hb2, if_pos q4, EP.out, if_pos q5, if_pos q6, e', eo, EI.out] <;> exact rfl) (Ev.bind (compareCalls_ev _ _) ?_)
            simp only [cmpP_less]
            cases hl : lessB (r.getD (i - 1) z41) (r.getD i z41) with
            | false => simp only [if_true, Bool.false_and]; exact ev_now _
            | true => simp only [Bool.true_eq_false, if_false, Bool.true_and]; exact ih'
theorem isRound_ev (n : Int) (h2 : n ≤ 10) (r : List S41) (h : r.length ≤ 1048576) : Ev (fun k => impl_isRound.f k n r) (isRoundB n r) := by
  unfold impl_isRound.f
  exact isRound_l0 n h2 r h r.length 0 0 (by omega) (by omega)
theorem anyO_ev (n : Int) (h2 : n ≤ 10) : ∀ l : List (List S41), (∀ r ∈ l, r.length ≤ 1048576) → Ev (fun k => Go.Proofs.YtnlmalicpckfbaaDoor.H.anyO (impl_AreRounds.g k n) l) (!l.all (isRoundB n))
  | [], _ => ev_now _
  | r :: l, h => by
    have ih := anyO_ev n h2 l (fun x hx => h x (List.mem_cons_of_mem _ hx))
    show Ev (fun k => (impl_AreRounds.g k n r).bind fun b => if b = true then some true else Go.Proofs.YtnlmalicpckfbaaDoor.H.anyO (impl_AreRounds.g k n) l) _
    have hg : Ev (fun k => impl_AreRounds.g k n r) (!isRoundB n r) := by
      unfold impl_AreRounds.g
      exact Ev.bind (isRound_ev n h2 r (h r List.mem_cons_self)) (ev_now _)
    refine Ev.bind hg ?_
    rw [List.all_cons]
    cases isRoundB n r with
    | false => simpa using ev_now _
    | true => simpa using ih
theorem areRounds_ev (n : Int) (l : List (List S41)) (h : l.length ≤ 1048576 ∧ ∀ r ∈ l, r.length ≤ 1048576) : Ev (fun k => impl_AreRounds.f k n l) (areRoundsB n l) := by
  unfold impl_AreRounds.f areRoundsB
  by_cases hc : 1 ≤ n ∧ n ≤ 10 ∧ l.length ≤ 20
  · simp only [if_pos hc, hc.1, hc.2.1, hc.2.2, decide_true, Bool.true_and]
    refine Ev.bind (anyO_ev n hc.2.1 l h.2) ?_
    rw [Bool.not_not]
    exact ev_now _
  · have e : (decide (1 ≤ n) && (decide (n ≤ 10) && (decide (l.length ≤ 20) && l.all (isRoundB n)))) = false := by
      rw [Bool.eq_false_iff]
      intro hh
      simp only [Bool.and_eq_true, decide_eq_true_eq] at hh
      exact hc ⟨hh.1, hh.2.1, hh.2.2.1⟩
    simp only [if_neg hc]
    rw [e]
    exact ev_now _
theorem areRoundsB_true {n : Int} {l : List (List S41)} (h : areRoundsB n l = true) : 1 ≤ n ∧ n ≤ 10 ∧ l.length ≤ 20 ∧ ∀ r ∈ l, isRoundB n r = true := by
  simp only [areRoundsB, Bool.and_eq_true, decide_eq_true_eq] at h
  exact ⟨h.1, h.2.1, h.2.2.1, List.all_eq_true.1 h.2.2.2⟩
theorem round_pairs (n : Int) (r : List S41) : ∀ (d i : Nat) (s : Int), i + d = r.length → roundAt n r d i s = true → pairsB n (prevP r i) (r.drop i) = true := by
  intro d
  induction d with
  | zero =>
    intro i s hi _
    rw [List.drop_eq_nil_of_le (by omega)]
    cases prevP r i <;> rfl
  | succ d ih =>
    intro i s hi h
    simp only [roundAt, Bool.and_eq_true, Bool.or_eq_true, decide_eq_true_eq] at h
    obtain ⟨h1, _, _, h2, h3⟩ := h
    have ih' := ih (i + 1) _ (by omega) h3
    rw [drop_at r i z41 (by omega)]
    have e : prevP r (i + 1) = some (r.getD i z41) := by simp [prevP]
    rw [e] at ih'
    rcases h2 with h2 | h2
    · subst h2
      simp only [prevP, if_true, pairsB, Bool.and_eq_true]
      exact ⟨h1, ih'⟩
    · by_cases h0 : i = 0
      · subst h0
        simp only [prevP, if_true, pairsB, Bool.and_eq_true]
        exact ⟨h1, ih'⟩
      · simp only [prevP, if_neg h0, pairsB, Bool.and_eq_true]
        exact ⟨h1, h2, ih'⟩
theorem round_all {n : Int} {l : List (List S41)} (h : areRoundsB n l = true) : ∀ r ∈ l, r.length ≤ 45 ∧ ∀ c ∈ r, isCallB n c.f0 c.f1 = true := by
  intro r hr
  obtain ⟨h1, h2, h3, h4⟩ := areRoundsB_true h
  have hp : pairsB n none r = true := by
    have := round_pairs n r r.length 0 0 (by omega) (h4 r hr)
    simpa [prevP] using this
  have hg : arePairsB n r = true := by simp [arePairsB, friendsB, h1, h2, hp]
  exact ⟨(pairs_45 hg).2.2, arePairs_all hg⟩

/-! strings as lists of bytes -/
theorem bext {a b : ByteArray} (h : a.data.toList = b.data.toList) : a = b := by
  cases a with | mk a => cases b with | mk b => exact congrArg ByteArray.mk (Array.ext' h)
theorem bapp (a b : ByteArray) : (a ++ b).data.toList = a.data.toList ++ b.data.toList := by rw [ByteArray.data_append, Array.toList_append]
theorem bsize (a : ByteArray) : a.size = a.data.toList.length := (Array.length_toList).symm
theorem bsize_app (a b : ByteArray) : (a ++ b).size = a.size + b.size := by rw [bsize, bsize, bsize, bapp, List.length_append]

/-! a text cut at a byte -/
def sp (c : UInt8) : List UInt8 → List (List UInt8)
  | [] => [[]]
  | x :: l => if x = c then [] :: sp c l else match sp c l with
    | [] => [[x]]
    | y :: r => (x :: y) :: r
def spW (c : UInt8) (pre : List UInt8) (l : List UInt8) : List (List UInt8) := match sp c l with
  | [] => [pre]
  | y :: r => (pre ++ y) :: r
theorem sp_some (c : UInt8) : ∀ l, ∃ y r, sp c l = y :: r
  | [] => ⟨[], [], rfl⟩
  | x :: l => by
    obtain ⟨y, r, h⟩ := sp_some c l
    unfold sp
    rw [h]
    split
    · exact ⟨_, _, rfl⟩
    · exact ⟨_, _, rfl⟩
theorem spW_nil (c : UInt8) (pre : List UInt8) : spW c pre [] = [pre] := by simp [spW, sp]
theorem spW_hit (c : UInt8) (pre l : List UInt8) : spW c pre (c :: l) = pre :: sp c l := by simp [spW, sp]
theorem spW_miss (c x : UInt8) (pre l : List UInt8) (h : x ≠ c) : spW c pre (x :: l) = spW c (pre ++ [x]) l := by
  obtain ⟨y, r, e⟩ := sp_some c l
  simp [spW, sp, h, e]
theorem spW_start (c : UInt8) (l : List UInt8) : spW c [] l = sp c l := by
  obtain ⟨y, r, e⟩ := sp_some c l
  simp [spW, e]
theorem sp_len (c : UInt8) : ∀ l, ((sp c l).map List.length).sum + (sp c l).length = l.length + 1
  | [] => rfl
  | x :: l => by
    have ih := sp_len c l
    obtain ⟨y, r, e⟩ := sp_some c l
    unfold sp
    split
    · simp only [List.map_cons, List.sum_cons, List.length_cons, List.length_nil]; omega
    · rw [e] at ih ⊢
      simp only [List.map_cons, List.sum_cons, List.length_cons] at ih ⊢
      omega
theorem count_none (c : UInt8) : ∀ l : List UInt8, Lib.indexByte l c = -1 → l.count c = 0
  | [], _ => rfl
  | x :: l, h => by
    unfold Lib.indexByte at h
    by_cases hx : (x == c) = true
    · rw [if_pos hx] at h; cases h
    · rw [if_neg hx] at h
      have hx' : x ≠ c := fun e => hx (by simp [e])
      by_cases hi : (Lib.indexByte l c == -1) = true
      · rw [List.count_cons_of_ne (by simpa using hx')]; exact count_none c l (by simpa using hi)
      · rw [if_neg hi] at h
        have := Lib.indexByte_ge l c
        omega
theorem splitK_sp (c : UInt8) : ∀ l : List UInt8, Lib.splitK [c] 0 (l.count c) l = sp c l
  | [] => rfl
  | x :: l => by
    have ih := splitK_sp c l
    by_cases h : x = c
    · subst h
      rw [List.count_cons_self, Lib.splitK, Lib.index_one, Lib.indexByte, if_pos (beq_self_eq_true x)]
      rw [if_neg (by decide)]
      simp only [List.length_cons, List.length_nil]
      show [] :: Lib.splitK [x] 0 (l.count x) l = _
      rw [ih, sp, if_pos rfl]
    · rw [List.count_cons_of_ne (by simpa using h), sp, if_neg h]
      cases hk : l.count c with
      | zero => rw [hk, Lib.splitK] at ih; rw [← ih, Lib.splitK]
      | succ k =>
        have hi : Lib.indexByte l c ≠ -1 := fun e => by rw [count_none c l e] at hk; cases hk
        have hge := Lib.indexByte_ge l c
        obtain ⟨i, ei⟩ : ∃ i : Nat, Lib.indexByte l c = (i : Int) := ⟨(Lib.indexByte l c).toNat, by omega⟩
        have hb : ¬ ((Lib.indexByte l c == -1) = true) := by simpa using hi
        rw [hk, Lib.splitK, Lib.index_one, if_neg hb, ei] at ih
        have hx : ¬ ((x == c) = true) := by simpa using h
        rw [← ih, Lib.splitK, Lib.index_one, Lib.indexByte, if_neg hx, if_neg hb, ei]
        rw [if_neg (by simp; omega)]
        rw [show ((i : Int) + 1).toNat = i + 1 by omega, show ((i : Int)).toNat = i by omega]
        rfl
def mkB (l : List UInt8) : ByteArray := ⟨l.toArray⟩
theorem mkB_data (b : ByteArray) : mkB b.data.toList = b := bext (by simp [mkB])
def pieces (c : UInt8) (s : ByteArray) : List ByteArray := (sp c s.data.toList).map mkB
theorem splitB_pieces (c : UInt8) (s : ByteArray) : Lib.splitB ⟨#[c]⟩ 0 (Lib.countB s ⟨#[c]⟩) s = pieces c s := by
  have h := Lib.splitB_data ⟨#[c]⟩ 0 (Lib.countB s ⟨#[c]⟩) s
  have e : Lib.countB s ⟨#[c]⟩ = s.data.toList.count c := Lib.count_one c _
  rw [e] at h ⊢
  rw [show (⟨#[c]⟩ : ByteArray).data.toList = [c] from rfl, splitK_sp] at h
  rw [pieces, ← h, List.map_map]
  have : ∀ xs : List ByteArray, xs = xs.map (mkB ∘ fun b => b.data.toList) := by
    intro xs
    induction xs with
    | nil => rfl
    | cons x xs ih => rw [List.map_cons, ← ih]; simp [mkB_data]
  exact this _
theorem pieces_len (c : UInt8) (s : ByteArray) : ((pieces c s).map ByteArray.size).sum + (pieces c s).length = s.size + 1 := by
  have h := sp_len c s.data.toList
  have e : (pieces c s).map ByteArray.size = (sp c s.data.toList).map List.length := by
    rw [pieces, List.map_map]
    congr 1
  rw [e, pieces, List.length_map, h, bsize]
theorem split_f (c : UInt8) (s : ByteArray) (h : s.size ≤ 1048576) : strings_Split.f s ⟨#[c]⟩ = some (pieces c s) := by
  unfold strings_Split.f
  rw [if_pos ⟨h, rfl⟩, splitB_pieces]
theorem data_at (s : ByteArray) (i : Nat) (h : i < s.size) : s.data.toList.drop i = s[i] :: s.data.toList.drop (i + 1) := by
  have h' : i < s.data.toList.length := by rw [Array.length_toList]; exact h
  rw [List.drop_eq_getElem_cons h']
  congr 1
theorem l1Split_l0 (s : ByteArray) (c : UInt8) (ci : Int) (hc : ((c.toNat : Nat) : Int) = ci) (hs : s.size ≤ 1048576) : ∀ (d i a : Nat) (out : List ByteArray), a ≤ i → i + d = s.size → out.length ≤ i →
    Ev (fun k => spec_l1Split.l0 k s ci out (a : Int) (i : Int)) (out ++ (spW c ((s.data.toList.drop a).take (i - a)) (s.data.toList.drop i)).map mkB) := by
  intro d
  induction d with
  | zero =>
    intro i a out ha hi ho
    have q0 : ¬ (i : Int) < (s.size : Int) := by omega
    have q1 : (0 : Int) ≤ (a : Int) := by omega
    have q2 : (a : Int) ≤ (s.size : Int) := by omega
    have q3 : out.length < 8796093022208 := by omega
    refine Ev.step (fun k => by simp only [spec_l1Split.l0, if_neg q0, if_pos q1, if_pos q2, if_pos q3] <;> exact rfl) ?_
    have e : (spW c ((s.data.toList.drop a).take (i - a)) (s.data.toList.drop i)).map mkB = [s.extract (a : Int).toNat s.size] := by
      have hd : s.data.toList.drop i = [] := List.drop_eq_nil_of_le (by rw [Array.length_toList]; show s.size ≤ i; omega)
      rw [hd, spW_nil, List.map_cons, List.map_nil]
      congr 1
      apply bext
      rw [Lib.extract_data]
      simp [mkB, show s.size = i by omega]
    rw [e]
    exact ev_now _
  | succ d ih =>
    intro i a out ha hi ho
    have hlt : i < s.size := by omega
    have q0 : (i : Int) < (s.size : Int) := by omega
    have q1 : (0 : Int) ≤ (i : Int) := by omega
    have ei := w64 (show -9223372036854775808 ≤ (i : Int) + 1 by omega) (by omega)
    have eb : bt s (i : Int) = ((s[i].toNat : Nat) : Int) := by simp [bt, hlt]
    rw [data_at s i hlt]
    by_cases h : s[i] = c
    · have p1 : bt s (i : Int) = ci := by rw [eb, h, hc]
      have p2 : (0 : Int) ≤ (a : Int) := by omega
      have p3 : (a : Int) ≤ (i : Int) := by omega
      have p4 : (i : Int) ≤ (s.size : Int) := by omega
      have p5 : out.length < 8796093022208 := by omega
      refine Ev.step (fun k => by simp only [spec_l1Split.l0, if_pos q0, if_pos q1, if_pos p1, if_pos p2, if_pos p3, if_pos p4, if_pos p5, ei] <;> exact rfl) ?_
      have hn := ih (i + 1) (i + 1) (out ++ [s.extract a i]) (Nat.le_refl _) (by omega) (by rw [List.length_append]; simp; omega)
      rw [Nat.sub_self, List.take_zero, spW_start] at hn
      rw [h, spW_hit, List.map_cons]
      have e : mkB ((s.data.toList.drop a).take (i - a)) = s.extract a i := by apply bext; rw [Lib.extract_data]; simp [mkB]
      rw [e]
      rw [List.append_assoc] at hn
      exact hn
    · have p1 : ¬ bt s (i : Int) = ci := by
        rw [eb, ← hc]
        intro e
        exact h (UInt8.toNat_inj.1 (by omega))
      refine Ev.step (fun k => by simp only [spec_l1Split.l0, if_pos q0, if_pos q1, if_neg p1, ei] <;> exact rfl) ?_
      rw [spW_miss c _ _ _ h]
      have hn := ih (i + 1) a out (by omega) (by omega) (by omega)
      have e : (s.data.toList.drop a).take (i - a) ++ [s[i]] = (s.data.toList.drop a).take (i + 1 - a) := by
        rw [show i + 1 - a = (i - a) + 1 by omega, List.take_succ_eq_append_getElem (by rw [List.length_drop, Array.length_toList]; show i - a < s.size - a; omega)]
        congr 1
        simp [show a + (i - a) = i by omega]
        rfl
      rw [e]
      exact hn
theorem l1Split_ev (s : ByteArray) (c : UInt8) (ci : Int) (hc : ((c.toNat : Nat) : Int) = ci) (hs : s.size ≤ 1048576) : Ev (fun k => spec_l1Split.f k s ci) (pieces c s) := by
  unfold spec_l1Split.f
  have := l1Split_l0 s c ci hc hs s.size 0 0 [] (Nat.le_refl _) (by omega) (Nat.le_refl _)
  simpa [spW_start, pieces] using this

theorem empty_iff (s : ByteArray) : s.toList = [] ↔ s.size = 0 := by rw [Lib.toList_data, bsize]; exact List.length_eq_zero_iff.symm
/-! calls out of a text -/
def pcC (p : ByteArray) : S41 := ⟨wrap64 ((wrap64 (bt p 0)) - 48), wrap64 ((wrap64 (bt p 1)) - 48)⟩
def okC (p : ByteArray) : Bool := p.size == 2 && isCallB 10 (pcC p).f0 (pcC p).f1
def parseP (s : ByteArray) : List S41 × Bool := if s.size = 0 then ([], true) else if (pieces 45 s).all okC = true ∧ (pieces 45 s).length ≤ 60 then ((pieces 45 s).map pcC, true) else ([], false)
theorem parseP_length (s : ByteArray) : (parseP s).1.length ≤ 60 := by
  unfold parseP
  split
  · exact Nat.zero_le _
  · split
    · rename_i h; rw [List.length_map]; exact h.2
    · exact Nat.zero_le _
theorem parse_at (xs : List ByteArray) (i : Nat) : rdOf ByteArray.empty xs (i : Int) = xs.getD i ByteArray.empty := rfl
theorem caParse_l0 (xs : List ByteArray) (hl : xs.length ≤ 2000000) : ∀ (d i : Nat), i + d = xs.length →
    Ev (fun k => spec_caParse.l0 k ((xs.take i).map pcC) xs (xs.length : Int) (i : Int)) (if (xs.drop i).all okC = true then (if xs.length > 60 then ([], false) else (xs.map pcC, true)) else ([], false)) := by
  intro d
  induction d with
  | zero =>
    intro i hi
    have hi' : ¬ (i : Int) < (xs.length : Int) := by omega
    rw [List.drop_eq_nil_of_le (by omega), List.all_nil, if_pos rfl, List.take_of_length_le (by omega)]
    by_cases hq : xs.length > 60
    · have hq' : ((xs.map pcC).length : Int) > 60 := by rw [List.length_map]; omega
      rw [if_pos hq]
      exact Ev.step (fun k => by simp only [spec_caParse.l0, if_neg hi', if_pos hq'] <;> exact rfl) (ev_now _)
    · have hq' : ¬ ((xs.map pcC).length : Int) > 60 := by rw [List.length_map]; omega
      rw [if_neg hq]
      exact Ev.step (fun k => by simp only [spec_caParse.l0, if_neg hi', if_neg hq'] <;> exact rfl) (ev_now _)
  | succ d ih =>
    intro i hi
    have hlt : i < xs.length := by omega
    have q1 : (i : Int) < (xs.length : Int) := by omega
    have q2 : (0 : Int) ≤ (i : Int) := by omega
    have ei := w64 (show -9223372036854775808 ≤ (i : Int) + 1 by omega) (by omega)
    have hn := ih (i + 1) (by omega)
    rw [drop_at xs i ByteArray.empty hlt, List.all_cons]
    rw [take_at xs i ByteArray.empty hlt, List.map_append] at hn
    generalize hp : xs.getD i ByteArray.empty = p at hn ⊢
    have er : rdOf ByteArray.empty xs (i : Int) = p := (parse_at xs i).trans hp
    by_cases h2 : p.size = 2
    · have p1 : (p.size : Int) = 2 := by omega
      have p2 : (0 : Int) < (p.size : Int) := by omega
      have p3 : (1 : Int) < (p.size : Int) := by omega
      have hc := caCall_f 10 (pcC p).f0 (pcC p).f1 (by decide) (by decide)
      have hc' : spec_caCall.f 10 (wrap64 ((wrap64 (bt p 0)) - 48)) (wrap64 ((wrap64 (bt p 1)) - 48)) = some (isCallB 10 (pcC p).f0 (pcC p).f1) := hc
      have q3 : ((xs.take i).map pcC).length < 8796093022208 := by rw [List.length_map, List.length_take]; omega
      cases hb : isCallB 10 (pcC p).f0 (pcC p).f1 with
      | true =>
        have ho : okC p = true := by simp [okC, h2, hb]
        rw [ho, Bool.true_and]
        rw [hb] at hc'
        refine Ev.step (fun k => by simp only [spec_caParse.l0, if_pos q1, if_pos q2, er, if_pos p1, if_pos p2, if_pos p3, hc', Option.bind_some, if_true, if_pos q3, ei] <;> exact rfl) ?_
        exact hn
      | false =>
        have ho : okC p = false := by simp [okC, hb]
        rw [ho, Bool.false_and]
        rw [hb] at hc'
        simp only [Bool.false_eq_true, if_false]
        exact Ev.step (fun k => by simp only [spec_caParse.l0, if_pos q1, if_pos q2, er, if_pos p1, if_pos p2, if_pos p3, hc', Option.bind_some, Bool.false_eq_true, if_false] <;> exact rfl) (ev_now _)
    · have p1 : ¬ (p.size : Int) = 2 := by omega
      have ho : okC p = false := by simp [okC, h2]
      rw [ho, Bool.false_and]
      simp only [Bool.false_eq_true, if_false]
      exact Ev.step (fun k => by simp only [spec_caParse.l0, if_pos q1, if_pos q2, er, if_neg p1] <;> exact rfl) (ev_now _)
theorem ParseCalls_l0 (xs : List ByteArray) (hl : xs.length ≤ 2000000) : ∀ (d i : Nat), i + d = xs.length →
    Ev (fun k => impl_ParseCalls.l0 k ((xs.take i).map pcC) xs (xs.length : Int) (i : Int)) (if (xs.drop i).all (fun p => p.size == 2) = true then (if areCallsB 10 (xs.map pcC) = true then (xs.map pcC, true) else ([], false)) else ([], false)) := by
  intro d
  induction d with
  | zero =>
    intro i hi
    have hi' : ¬ (i : Int) < (xs.length : Int) := by omega
    rw [List.drop_eq_nil_of_le (by omega), List.all_nil, if_pos rfl, List.take_of_length_le (by omega)]
    refine Ev.step (fun k => by simp only [impl_ParseCalls.l0, if_neg hi', impl_AreCalls.f, Option.bind_some] <;> exact rfl) ?_
    cases areCallsB 10 (xs.map pcC) with
    | true => exact ev_now _
    | false => exact ev_now _
  | succ d ih =>
    intro i hi
    have hlt : i < xs.length := by omega
    have q1 : (i : Int) < (xs.length : Int) := by omega
    have q2 : (0 : Int) ≤ (i : Int) := by omega
    have ei := w64 (show -9223372036854775808 ≤ (i : Int) + 1 by omega) (by omega)
    have hn := ih (i + 1) (by omega)
    rw [drop_at xs i ByteArray.empty hlt, List.all_cons]
    rw [take_at xs i ByteArray.empty hlt, List.map_append] at hn
    generalize hp : xs.getD i ByteArray.empty = p at hn ⊢
    have er : rdOf ByteArray.empty xs (i : Int) = p := (parse_at xs i).trans hp
    by_cases h2 : p.size = 2
    · have p1 : (p.size : Int) = 2 := by omega
      have p2 : (0 : Int) < (p.size : Int) := by omega
      have p3 : (1 : Int) < (p.size : Int) := by omega
      have q3 : ((xs.take i).map pcC).length < 8796093022208 := by rw [List.length_map, List.length_take]; omega
      have ho : (p.size == 2) = true := by simp [h2]
      rw [ho, Bool.true_and]
      refine Ev.step (fun k => by simp only [impl_ParseCalls.l0, if_pos q1, if_pos q2, er, if_pos p1, if_pos p2, if_pos p3, if_pos q3, ei] <;> exact rfl) ?_
      exact hn
    · have p1 : ¬ (p.size : Int) = 2 := by omega
      have ho : (p.size == 2) = false := by simp [h2]
      rw [ho, Bool.false_and]
      simp only [Bool.false_eq_true, if_false]
      exact Ev.step (fun k => by simp only [impl_ParseCalls.l0, if_pos q1, if_pos q2, er, if_neg p1] <;> exact rfl) (ev_now _)
theorem all_okC (xs : List ByteArray) : (xs.all okC = true ∧ xs.length ≤ 60) ↔ (xs.all (fun p => p.size == 2) = true ∧ areCallsB 10 (xs.map pcC) = true) := by
  have e : areCallsB 10 (xs.map pcC) = (decide (xs.length ≤ 60) && xs.all fun p => isCallB 10 (pcC p).f0 (pcC p).f1) := by
    simp [areCallsB, List.all_map, Function.comp_def]
  rw [e]
  simp only [okC, List.all_eq_true, Bool.and_eq_true, decide_eq_true_eq]
  exact ⟨fun ⟨h1, h2⟩ => ⟨fun p hp => (h1 p hp).1, h2, fun p hp => (h1 p hp).2⟩, fun ⟨h1, h2, h3⟩ => ⟨fun p hp => ⟨h1 p hp, h3 p hp⟩, h2⟩⟩
theorem pieces_le (c : UInt8) (s : ByteArray) (h : s.size ≤ 1048576) : (pieces c s).length ≤ 2000000 := by have := pieces_len c s; omega
theorem long_pieces (s : ByteArray) (h : s.size > 180) : ¬ ((pieces 45 s).all okC = true ∧ (pieces 45 s).length ≤ 60) := by
  rintro ⟨h1, h2⟩
  have h3 := pieces_len 45 s
  have h4 : ∀ xs : List ByteArray, xs.all okC = true → (xs.map ByteArray.size).sum = 2 * xs.length := by
    intro xs
    induction xs with
    | nil => intro _; rfl
    | cons x xs ih =>
      intro hx
      rw [List.all_cons, Bool.and_eq_true] at hx
      have h5 := ih hx.2
      have h6 : x.size = 2 := by have := hx.1; simp [okC] at this; exact this.1
      rw [List.map_cons, List.sum_cons, List.length_cons, h5, h6]
      omega
  have h5 := h4 _ h1
  omega
theorem caParse_ev (s : ByteArray) (h : s.size ≤ 1048576) : Ev (fun k => spec_caParse.f k s) (parseP s) := by
  unfold spec_caParse.f parseP
  by_cases h0 : s.size = 0
  · have h0' := (empty_iff s).2 h0
    simp only [if_pos h0, if_pos h0']
    exact ev_now _
  · have h0' : ¬ s.toList = [] := fun e => h0 ((empty_iff s).1 e)
    simp only [if_neg h0, if_neg h0']
    by_cases h1 : (s.size : Int) > 180
    · simp only [if_pos h1, if_neg (long_pieces s (by omega))]
      exact ev_now _
    · simp only [if_neg h1]
      refine Ev.bind (l1Split_ev s 45 45 rfl h) ?_
      have := caParse_l0 (pieces 45 s) (pieces_le 45 s h) _ 0 (Nat.zero_add _)
      rw [List.drop_zero] at this
      have e : (if (pieces 45 s).all okC = true ∧ (pieces 45 s).length ≤ 60 then ((pieces 45 s).map pcC, true) else ([], false)) = (if (pieces 45 s).all okC = true then (if (pieces 45 s).length > 60 then ([], false) else ((pieces 45 s).map pcC, true)) else ([], false)) := by
        by_cases ha : (pieces 45 s).all okC = true <;> by_cases hb : (pieces 45 s).length ≤ 60
        · rw [if_pos ⟨ha, hb⟩, if_pos ha, if_neg (by omega)]
        · rw [if_neg (fun h => hb h.2), if_pos ha, if_pos (by omega)]
        · rw [if_neg (fun h => ha h.1), if_neg ha]
        · rw [if_neg (fun h => ha h.1), if_neg ha]
      rw [e]
      exact this
theorem ParseCalls_ev (s : ByteArray) (h : s.size ≤ 1048576) : Ev (fun k => impl_ParseCalls.f k s) (parseP s) := by
  unfold impl_ParseCalls.f parseP
  simp only [Option.bind_some]
  by_cases h0 : s.size = 0
  · have h0' := (empty_iff s).2 h0
    simp only [if_pos h0, if_pos h0']
    exact ev_now _
  · have h0' : ¬ s.toList = [] := fun e => h0 ((empty_iff s).1 e)
    simp only [if_neg h0, if_neg h0', split_f 45 s h, Option.bind_some]
    have := ParseCalls_l0 (pieces 45 s) (pieces_le 45 s h) _ 0 (Nat.zero_add _)
    rw [List.drop_zero] at this
    have e : (if (pieces 45 s).all okC = true ∧ (pieces 45 s).length ≤ 60 then ((pieces 45 s).map pcC, true) else ([], false)) = (if (pieces 45 s).all (fun p => p.size == 2) = true then (if areCallsB 10 ((pieces 45 s).map pcC) = true then ((pieces 45 s).map pcC, true) else ([], false)) else ([], false)) := by
      have hi := all_okC (pieces 45 s)
      by_cases ha : (pieces 45 s).all (fun p => p.size == 2) = true <;> by_cases hb : areCallsB 10 ((pieces 45 s).map pcC) = true
      · rw [if_pos (hi.2 ⟨ha, hb⟩), if_pos ha, if_pos hb]
      · rw [if_neg (fun h => hb (hi.1 h).2), if_pos ha, if_neg hb]
      · rw [if_neg (fun h => ha (hi.1 h).1), if_neg ha]
      · rw [if_neg (fun h => ha (hi.1 h).1), if_neg ha]
    rw [e]
    exact this

theorem mem_sum (x : Nat) : ∀ l : List Nat, x ∈ l → x ≤ l.sum
  | [], h => by cases h
  | y :: l, h => by
    rw [List.sum_cons]
    rcases List.mem_cons.1 h with h | h
    · omega
    · have := mem_sum x l h; omega
theorem piece_size {c : UInt8} {s p : ByteArray} (h : p ∈ pieces c s) : p.size ≤ s.size := by
  have h1 := pieces_len c s
  have h2 := mem_sum p.size ((pieces c s).map ByteArray.size) (List.mem_map_of_mem h)
  have h3 : 0 < (pieces c s).length := List.length_pos_of_mem h
  omega
def rowsP (xs : List ByteArray) : List (List S41) := xs.map fun p => (parseP p).1
theorem roGood_any (l : List (List S41)) (h : ∀ r ∈ l, r.length ≤ 1048576) : Ev (fun k => spec_roGood.f k 10 l) (areRoundsB 10 l) := by
  by_cases hl : l.length ≤ 1048576
  · exact roGood_ev 10 l ⟨hl, h⟩
  · have e : areRoundsB 10 l = false := by
      have : ¬ l.length ≤ 20 := by omega
      simp [areRoundsB, this]
    rw [e]
    unfold spec_roGood.f
    rw [caFriends_f]
    simp only [Option.bind_some, show (decide ((1 : Int) ≤ 10) && decide ((10 : Int) ≤ 10)) = true from rfl, if_true]
    have h2 : (l.length : Int) > 20 := by omega
    simp only [decide_eq_true h2]
    exact Ev.step (fun k => by simp only [spec_roGood.j0, if_true] <;> exact rfl) (ev_now _)
theorem areRounds_any (l : List (List S41)) (h : ∀ r ∈ l, r.length ≤ 1048576) : Ev (fun k => impl_AreRounds.f k 10 l) (areRoundsB 10 l) := by
  by_cases hl : l.length ≤ 1048576
  · exact areRounds_ev 10 l ⟨hl, h⟩
  · have h2 : ¬ l.length ≤ 20 := by omega
    have e : areRoundsB 10 l = false := by simp [areRoundsB, h2]
    rw [e]
    unfold impl_AreRounds.f
    simp only [if_neg (show ¬ ((1 : Int) ≤ 10 ∧ (10 : Int) ≤ 10 ∧ l.length ≤ 20) from fun h => h2 h.2.2)]
    exact ev_now _
def resR (xs : List ByteArray) (i : Nat) : List (List S41) × Bool := if (xs.drop i).all (fun p => (parseP p).2) = true then (if areRoundsB 10 (rowsP xs) = true then (rowsP xs, true) else ([], false)) else ([], false)
theorem rowsP_small (xs : List ByteArray) : ∀ r ∈ rowsP xs, r.length ≤ 1048576 := by
  intro r hr
  obtain ⟨p, _, rfl⟩ := List.mem_map.1 hr
  have := parseP_length p
  omega
theorem good_spec_roParse (l : List (List S41)) (h : ∀ r ∈ l, r.length ≤ 1048576) : Ev (fun k => spec_roGood.f k 10 l) (areRoundsB 10 l) := roGood_any l h
theorem good_impl_ParseRounds (l : List (List S41)) (h : ∀ r ∈ l, r.length ≤ 1048576) : Ev (fun k => impl_AreRounds.f k 10 l) (areRoundsB 10 l) := areRounds_any l h
theorem one_spec_roParse (p : ByteArray) (h : p.size ≤ 1048576) : Ev (fun k => spec_caParse.f k p) (parseP p) := caParse_ev p h
theorem one_impl_ParseRounds (p : ByteArray) (h : p.size ≤ 1048576) : Ev (fun k => impl_ParseCalls.f k p) (parseP p) := ParseCalls_ev p h
theorem spec_roParse_l0 (xs : List ByteArray) (hl : xs.length ≤ 2000000) (hs : ∀ p ∈ xs, p.size ≤ 1048576) : ∀ (d i : Nat), i + d = xs.length →
    Ev (fun k => spec_roParse.l0 k (rowsP (xs.take i)) xs (xs.length : Int) (i : Int)) (resR xs i) := by
  intro d
  induction d with
  | zero =>
    intro i hi
    have hi' : ¬ (i : Int) < (xs.length : Int) := by omega
    unfold resR
    rw [List.drop_eq_nil_of_le (by omega), List.all_nil, if_pos rfl, List.take_of_length_le (by omega)]
    refine Ev.step (fun k => by simp only [spec_roParse.l0, if_neg hi'] <;> exact rfl) ?_
    refine Ev.bind (good_spec_roParse _ (rowsP_small xs)) ?_
    cases areRoundsB 10 (rowsP xs) with
    | true => exact ev_now _
    | false => exact ev_now _
  | succ d ih =>
    intro i hi
    have hlt : i < xs.length := by omega
    have q1 : (i : Int) < (xs.length : Int) := by omega
    have q2 : (0 : Int) ≤ (i : Int) := by omega
    have ei := w64 (show -9223372036854775808 ≤ (i : Int) + 1 by omega) (by omega)
    have hn := ih (i + 1) (by omega)
    have hm : xs.getD i ByteArray.empty ∈ xs := by rw [getD_at _ _ _ hlt]; exact List.getElem_mem hlt
    have hp2 := hs _ hm
    unfold resR at hn ⊢
    rw [drop_at xs i ByteArray.empty hlt, List.all_cons]
    rw [take_at xs i ByteArray.empty hlt, rowsP, List.map_append, List.map_cons, List.map_nil] at hn
    generalize hp : xs.getD i ByteArray.empty = p at hn hp2 ⊢
    have er : rdOf ByteArray.empty xs (i : Int) = p := (parse_at xs i).trans hp
    have q3 : (rowsP (xs.take i)).length < 5864062014805 := by rw [rowsP, List.length_map, List.length_take]; omega
    refine Ev.step (fun k => by simp only [spec_roParse.l0, if_pos q1, if_pos q2, er, if_pos q3, ei] <;> exact rfl) ?_
    refine Ev.bind (one_spec_roParse p hp2) ?_
    cases hb : (parseP p).2 with
    | true =>
      rw [Bool.true_and]
      simp only [if_true]
      exact hn
    | false =>
      rw [Bool.false_and]
      simp only [Bool.false_eq_true, if_false]
      exact ev_now _
theorem impl_ParseRounds_l0 (xs : List ByteArray) (hl : xs.length ≤ 2000000) (hs : ∀ p ∈ xs, p.size ≤ 1048576) : ∀ (d i : Nat), i + d = xs.length →
    Ev (fun k => impl_ParseRounds.l0 k (rowsP (xs.take i)) xs (xs.length : Int) (i : Int)) (resR xs i) := by
  intro d
  induction d with
  | zero =>
    intro i hi
    have hi' : ¬ (i : Int) < (xs.length : Int) := by omega
    unfold resR
    rw [List.drop_eq_nil_of_le (by omega), List.all_nil, if_pos rfl, List.take_of_length_le (by omega)]
    refine Ev.step (fun k => by simp only [impl_ParseRounds.l0, if_neg hi'] <;> exact rfl) ?_
    refine Ev.bind (good_impl_ParseRounds _ (rowsP_small xs)) ?_
    cases areRoundsB 10 (rowsP xs) with
    | true => exact ev_now _
    | false => exact ev_now _
  | succ d ih =>
    intro i hi
    have hlt : i < xs.length := by omega
    have q1 : (i : Int) < (xs.length : Int) := by omega
    have q2 : (0 : Int) ≤ (i : Int) := by omega
    have ei := w64 (show -9223372036854775808 ≤ (i : Int) + 1 by omega) (by omega)
    have hn := ih (i + 1) (by omega)
    have hm : xs.getD i ByteArray.empty ∈ xs := by rw [getD_at _ _ _ hlt]; exact List.getElem_mem hlt
    have hp2 := hs _ hm
    unfold resR at hn ⊢
    rw [drop_at xs i ByteArray.empty hlt, List.all_cons]
    rw [take_at xs i ByteArray.empty hlt, rowsP, List.map_append, List.map_cons, List.map_nil] at hn
    generalize hp : xs.getD i ByteArray.empty = p at hn hp2 ⊢
    have er : rdOf ByteArray.empty xs (i : Int) = p := (parse_at xs i).trans hp
    have q3 : (rowsP (xs.take i)).length < 5864062014805 := by rw [rowsP, List.length_map, List.length_take]; omega
    refine Ev.step (fun k => by simp only [impl_ParseRounds.l0, if_pos q1, if_pos q2, er, if_pos q3, ei] <;> exact rfl) ?_
    refine Ev.bind (one_impl_ParseRounds p hp2) ?_
    cases hb : (parseP p).2 with
    | true =>
      rw [Bool.true_and]
      simp only [if_true]
      exact hn
    | false =>
      rw [Bool.false_and]
      simp only [Bool.false_eq_true, if_false]
      exact ev_now _
def resP (s : ByteArray) : List (List S41) × Bool := if s.toList = [46] then ([], true) else resR (pieces 47 s) 0
theorem resP_rows (s : ByteArray) (_ : s.size ≤ 1048576) : RowsC (resP s).1 ∧ 1 + totC (resP s).1 ≤ 1099511627776 := by
  have h0 : RowsC ([] : List (List S41)) ∧ 1 + totC ([] : List (List S41)) ≤ 1099511627776 := rowsC_tot (by simp) (fun r hr => by cases hr)
  unfold resP resR
  split
  · exact h0
  · split
    · split
      · rename_i h
        have h1 := areRoundsB_true h
        exact rowsC_tot (by have := h1.2.2.1; show (rowsP _).length ≤ _; omega) (rowsP_small _)
      · exact h0
    · exact h0
theorem spec_ev (s : ByteArray) (h : s.size ≤ 1048576) : Ev (fun k => spec_ParseRounds.f k s) (resP s) := by
  unfold spec_ParseRounds.f
  refine Ev.bind (a := resP s) ?_ (ev_now _)
  unfold spec_roParse.f resP
  by_cases h0 : s.toList = [46]
  · simp only [if_pos h0]; exact ev_now _
  · simp only [if_neg h0]
    refine Ev.bind (l1Split_ev s 47 47 rfl h) ?_
    exact spec_roParse_l0 (pieces 47 s) (pieces_le 47 s h) (fun p hp => by have := piece_size hp; omega) _ 0 (Nat.zero_add _)
theorem impl_ev (s : ByteArray) (h : s.size ≤ 1048576) : Ev (fun k => impl_ParseRounds.f k s) (resP s) := by
  unfold impl_ParseRounds.f resP
  simp only [Option.bind_some]
  by_cases h0 : s.toList = [46]
  · simp only [if_pos h0]; exact ev_now _
  · simp only [if_neg h0, split_f 47 s h, Option.bind_some]
    exact impl_ParseRounds_l0 (pieces 47 s) (pieces_le 47 s h) (fun p hp => by have := piece_size hp; omega) _ 0 (Nat.zero_add _)
theorem FnExactParseRounds : ∀ (a0 : ByteArray), a0.size ≤ 140737488351232 → ∃ k, laws_FnExactParseRounds.f k a0 = some true := by
  intro a0 w0
  apply Ev.rounds
  unfold laws_FnExactParseRounds.f
  by_cases h1 : (a0.size : Int) > 1048576
  · simp only [if_pos h1]
    exact ev_now _
  · simp only [if_neg h1]
    refine Ev.bind (spec_ev a0 (by omega)) ?_
    refine Ev.bind (impl_ev a0 (by omega)) ?_
    obtain ⟨hr, hb⟩ := resP_rows a0 (by omega)
    refine Ev.bind (eqCallSS_ev _ hr) ?_
    simp only [true_and, if_true]
    refine Ev.bind (markCallSS_ev _ 1 hr (by omega) hb) ?_
    refine Ev.bind (heldCallSS_ev _ 1 hr (by omega) hb) ?_
    have hp : 0 ≤ 1 + totC (resP a0).1 := by have := totC_nonneg (resP a0).1; omega
    simp only [hp, and_self, if_true]
    exact ev_now _

end Go.Proofs.YtnlmalicpckfbaaDoor.Pure
