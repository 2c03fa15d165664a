/- The pure side of FnExactRoundsText: program and reference agree at every argument. No condition beside what an argument is. -/
import Derived.Test.YtnlmalicpckfbaaPFnExactRoundsTextx17
import Derived.Test.YtnlmalicpckfbaaPBase
import Derived.Test.YtnlmalicpckfbaaHContRow
namespace Go.Proofs.Ytnlmalicpckfbaa.Pure
open Go.RowKit Go.Proofs.Ytnlmalicpckfbaa.PFnExactRoundsText Go.Proofs.YtnlmalicpckfbaaW.PrintWords Go.Proofs.YtnlmalicpckfbaaW.PrintLast Go.Proofs.YtnlmalicpckfbaaW.PrintMore Go.Proofs.Ytnlmalicpckfbaa.PB
set_option linter.unusedSimpArgs false
set_option linter.unusedVariables false
/-! calls: read, compared, marked -/
def toCalls (l : List S88) : List S68 := l.map fun c => ⟨c.f0, c.f1⟩
theorem toCalls_length (l : List S88) : (toCalls l).length = l.length := by simp [toCalls]

theorem szCallS_small (l : List S88) (h : l.length ≤ 1048576) : laws_szCallS.f l 1048576 = some (1048576 - (l.length : Int)) := by
  unfold laws_szCallS.f
  rw [w64 (by omega) (by omega), if_neg (by omega)]
theorem szCallS_great (l : List S88) (h : ¬ l.length ≤ 1048576) (h2 : l.length ≤ 9223372036854775807) : laws_szCallS.f l 1048576 = some (-1) := by
  unfold laws_szCallS.f
  rw [w64 (by omega) (by omega), if_pos (by omega)]

theorem toCallS_l0 (l : List S88) (h : l.length ≤ 1048576) : ∀ (d : Nat) (i : Int) (acc : List S68), 0 ≤ i → i + d = l.length → acc.length = l.length →
    (∀ j : Nat, (j : Int) < i → acc.getD j z68 = (toCalls l).getD j z68) → Ev (fun k => laws_toCallS.l0 k l acc i) (toCalls l) := by
  intro d
  induction d with
  | zero =>
    intro i acc h0 hi hl hacc
    refine ev_step (f := fun _ => some acc) (fun k => ?_) ?_
    · simp only [laws_toCallS.l0]; rw [if_neg (by omega)]
    · have : acc = toCalls l := ext_getD z68 (by rw [hl, toCalls_length]) (fun j hj => hacc j (by omega))
      rw [this]; exact ev_now _
  | succ d ih =>
    intro i acc h0 hi hl hacc
    refine ev_step (f := fun k => laws_toCallS.l0 k l (acc.set i.toNat ⟨(l.getD i.toNat z88).f0, (l.getD i.toNat z88).f1⟩) (i + 1)) (fun k => ?_) ?_
    · simp only [laws_toCallS.l0, laws_toCall.f, rd_T88, Option.bind_some]
      rw [if_pos (by omega), if_pos h0, if_pos (by omega), w64 (by omega) (by omega)]
    · refine ih (i + 1) _ (by omega) (by omega) (by simpa using hl) (fun j hj => ?_)
      rw [getD_set _ _ _ _ _ (by omega)]
      split
      · rename_i e
        subst e
        rw [toCalls, getD_map (fun c : S88 => (⟨c.f0, c.f1⟩ : S68)) l i.toNat z88 z68 (by omega)]
      · exact hacc j (by omega)
theorem toCallS_ev (l : List S88) (h : l.length ≤ 1048576) : Ev (fun k => laws_toCallS.f k l) (toCalls l) := by
  unfold laws_toCallS.f
  have h1 : (0 : Int) ≤ (l.length : Int) := by omega
  have h2 : ((l.length : Int)).toNat ≤ 17592186044416 := by omega
  simp only [if_pos h1, if_pos h2]
  exact toCallS_l0 l h l.length 0 _ (by omega) (by omega) (by simp) (fun j hj => by omega)

theorem eqCallS_l0 (a : List S68) (h : a.length ≤ 1048576) : ∀ (d : Nat) (i : Int), 0 ≤ i → i + d = a.length → Ev (fun k => laws_eqCallS.l0 k a a i) true := by
  intro d
  induction d with
  | zero =>
    intro i h0 hi
    refine ev_step (f := fun _ => some true) (fun k => ?_) (ev_now _)
    simp only [laws_eqCallS.l0]; rw [if_neg (by omega)]
  | succ d ih =>
    intro i h0 hi
    refine ev_step (f := fun k => laws_eqCallS.l0 k a a (i + 1)) (fun k => ?_) (ih _ (by omega) (by omega))
    simp only [laws_eqCallS.l0, laws_eqCall.f, if_true, Option.bind_some]
    rw [if_pos (by omega), if_pos h0, if_pos (by omega), w64 (by omega) (by omega)]
theorem eqCallS_ev (a : List S68) (h : a.length ≤ 1048576) : Ev (fun k => laws_eqCallS.f k a a) true := by
  unfold laws_eqCallS.f
  simp only [if_true]
  exact eqCallS_l0 a h a.length 0 (by omega) (by omega)

/-! calls: marked -/
def markedC (n : Nat) (m : Int) : List S68 := (List.range n).map fun i : Nat => ⟨m + 2 * (i : Int), m + 2 * (i : Int) + 1⟩
def isCallB (n a b : Int) : Bool := decide (0 ≤ a) && (decide (a < b) && decide (b < n))
theorem isCall_f (n a b : Int) : impl_isCall.f n a b = some (isCallB n a b) := by
  unfold impl_isCall.f isCallB
  by_cases h1 : 0 ≤ a <;> by_cases h2 : a < b <;> by_cases h3 : b < n <;> simp [h1, h2, h3]

theorem caCall_f (n a b : Int) (h1 : 1 ≤ n) (h2 : n ≤ 10) : spec_caCall.f n a b = some (isCallB n a b) := by
  unfold spec_caCall.f spec_l1In.f isCallB
  rw [w64 (by omega) (by omega)]
  by_cases g1 : 0 ≤ a
  · by_cases g2 : a ≤ n - 1
    · rw [w64 (by omega) (by omega)]
      by_cases g3 : a + 1 ≤ b <;> by_cases g4 : b ≤ n - 1
      · have e1 : a < b := by omega
        have e2 : b < n := by omega
        simp [g1, g2, g3, g4, e1, e2]
      · have e1 : a < b := by omega
        have e2 : ¬ b < n := by omega
        simp [g1, g2, g3, g4, e1, e2]
      · have e1 : ¬ a < b := by omega
        simp [g1, g2, g3, e1]
      · have e1 : ¬ a < b := by omega
        simp [g1, g2, g3, e1]
    · by_cases g3 : a < b
      · have e2 : ¬ b < n := by omega
        simp [g1, g2, e2]
      · simp [g1, g2, g3]
  · simp [g1]

/-! spec.caGood -/
theorem caFriends_f (n : Int) : spec_caFriends.f n = some (decide (1 ≤ n) && decide (n ≤ 10)) := by
  unfold spec_caFriends.f spec_l1In.f
  by_cases h1 : 1 ≤ n <;> by_cases h2 : n ≤ 10 <;> simp [h1, h2]
/-! news: what friends know, as numbers below 2^n -/
def orI (a b : Int) : Int := ((a.toNat ||| b.toNat : Nat) : Int)
def startP (n : Nat) : List Int := (List.range n).map fun i => ((2 ^ i : Nat) : Int)
def SmallP (n : Nat) (l : List Int) : Prop := l.length = n ∧ ∀ x ∈ l, 0 ≤ x ∧ x < ((2 ^ n : Nat) : Int)
theorem smallP_at {n : Nat} {l : List Int} (h : SmallP n l) (i : Nat) (hi : i < n) : 0 ≤ l.getD i 0 ∧ l.getD i 0 < ((2 ^ n : Nat) : Int) := by
  have hl : i < l.length := by rw [h.1]; exact hi
  rw [getD_at l i 0 hl]
  exact h.2 _ (List.getElem_mem hl)
theorem smallP_1024 {n : Nat} {l : List Int} (h : SmallP n l) (hn : n ≤ 10) (i : Nat) (hi : i < n) : 0 ≤ l.getD i 0 ∧ l.getD i 0 < 1024 := by
  have h1 := smallP_at h i hi
  have h2 : 2 ^ n ≤ 2 ^ 10 := Nat.pow_le_pow_right (by omega) hn
  omega
theorem smallP_start (n : Nat) : SmallP n (startP n) := by
  refine ⟨by simp [startP], fun x hx => ?_⟩
  obtain ⟨i, hi, rfl⟩ := List.mem_map.1 hx
  have : i < n := by simpa using hi
  have h2 : 2 ^ i < 2 ^ n := Nat.pow_lt_pow_right (by omega) this
  have h3 : 0 < 2 ^ i := Nat.two_pow_pos i
  omega
theorem orI_lt {n : Nat} {a b : Int} (ha : 0 ≤ a ∧ a < ((2 ^ n : Nat) : Int)) (hb : 0 ≤ b ∧ b < ((2 ^ n : Nat) : Int)) : 0 ≤ orI a b ∧ orI a b < ((2 ^ n : Nat) : Int) := by
  have h := Nat.or_lt_two_pow (x := a.toNat) (y := b.toNat) (n := n) (by omega) (by omega)
  unfold orI
  omega
theorem smallP_set {n : Nat} {l : List Int} (h : SmallP n l) (i : Nat) (x : Int) (hx : 0 ≤ x ∧ x < ((2 ^ n : Nat) : Int)) : SmallP n (l.set i x) := by
  refine ⟨by rw [List.length_set, h.1], fun y hy => ?_⟩
  rcases List.mem_or_eq_of_mem_set hy with h1 | h1
  · exact h.2 y h1
  · rw [h1]; exact hx
theorem or_i64 {a b : Int} (ha : 0 ≤ a ∧ a < 1024) (hb : 0 ≤ b ∧ b < 1024) : Go.bits .or .i64 a b = orI a b := by
  have h := (bits_nat .i64 10 (by decide) (fun n h0 h1 => by rw [IntKind.wrap_i64]; omega) a.toNat b.toNat (by omega) (by omega)).2
  rw [show ((a.toNat : Nat) : Int) = a by omega, show ((b.toNat : Nat) : Int) = b by omega] at h
  exact h
theorem or_u16 {a b : Int} (ha : 0 ≤ a ∧ a < 1024) (hb : 0 ≤ b ∧ b < 1024) : Go.bits .or .u16 a b = orI a b := by
  have h := (bits_nat .u16 10 (by decide) (fun n h0 h1 => by simp [IntKind.wrap, IntKind.bits, IntKind.signed]; omega) a.toNat b.toNat (by omega) (by omega)).2
  rw [show ((a.toNat : Nat) : Int) = a by omega, show ((b.toNat : Nat) : Int) = b by omega] at h
  exact h
theorem shl_i64_all : ∀ i : Fin 11, shl .i64 1 (i.val : Int) = ((2 ^ i.val : Nat) : Int) := by decide +kernel
theorem shl_u16_all : ∀ i : Fin 11, shl .u16 1 (i.val : Int) = ((2 ^ i.val : Nat) : Int) := by decide +kernel
theorem shl_i64_at (i : Int) (h0 : 0 ≤ i) (h1 : i ≤ 10) : shl .i64 1 i = ((2 ^ i.toNat : Nat) : Int) := by
  have := shl_i64_all ⟨i.toNat, by omega⟩
  simp only [Int.toNat_of_nonneg h0] at this
  exact this
theorem shl_u16_at (i : Int) (h0 : 0 ≤ i) (h1 : i ≤ 10) : shl .u16 1 i = ((2 ^ i.toNat : Nat) : Int) := by
  have := shl_u16_all ⟨i.toNat, by omega⟩
  simp only [Int.toNat_of_nonneg h0] at this
  exact this
theorem startP_take (n i : Nat) (h : i < n) : (startP n).take (i + 1) = (startP n).take i ++ [((2 ^ i : Nat) : Int)] := by
  rw [take_at (startP n) i 0 (by simpa [startP] using h), startP, getD_range_map _ _ _ _ h]
/-! single digits -/
theorem bit_i64_all : ∀ x : Fin 1024, ∀ a : Fin 10, Go.bits .and .i64 (shr .i64 (x.val : Int) (a.val : Int)) 1 = if x.val.testBit a.val then 1 else 0 := by decide +kernel
theorem bit_u16_all : ∀ x : Fin 1024, ∀ a : Fin 10, Go.bits .and .u16 (shr .u16 (x.val : Int) (a.val : Int)) 1 = if x.val.testBit a.val then 1 else 0 := by decide +kernel
def bitB (x a : Int) : Bool := x.toNat.testBit a.toNat
theorem bit_i64 {x a : Int} (hx : 0 ≤ x ∧ x < 1024) (h0 : 0 ≤ a) (h1 : a < 10) : (Go.bits .and .i64 (shr .i64 x a) 1 = 1) = (bitB x a = true) := by
  have h := bit_i64_all ⟨x.toNat, by omega⟩ ⟨a.toNat, by omega⟩
  simp only [Int.toNat_of_nonneg hx.1, Int.toNat_of_nonneg h0] at h
  rw [h, bitB]
  cases x.toNat.testBit a.toNat <;> simp
theorem bit_u16 {x a : Int} (hx : 0 ≤ x ∧ x < 1024) (h0 : 0 ≤ a) (h1 : a < 10) : (Go.bits .and .u16 (shr .u16 x a) 1 = 1) = (bitB x a = true) := by
  have h := bit_u16_all ⟨x.toNat, by omega⟩ ⟨a.toNat, by omega⟩
  simp only [Int.toNat_of_nonneg hx.1, Int.toNat_of_nonneg h0] at h
  rw [h, bitB]
  cases x.toNat.testBit a.toNat <;> simp

/-! networks: strictly increasing lists of calls -/
theorem isCallB_bd {n a b : Int} (h : isCallB n a b = true) : 0 ≤ a ∧ a < b ∧ b < n := by simpa [isCallB] using h
def lessB (c d : S68) : Bool := decide (c.f0 < d.f0) || (decide (c.f0 = d.f0) && decide (c.f1 < d.f1))
def pairsB (n : Int) : Option S68 → List S68 → Bool
  | _, [] => true
  | none, c :: cs => isCallB n c.f0 c.f1 && pairsB n (some c) cs
  | some p, c :: cs => isCallB n c.f0 c.f1 && (lessB p c && pairsB n (some c) cs)
def friendsB (n : Int) : Bool := decide (1 ≤ n) && decide (n ≤ 10)
def arePairsB (n : Int) (l : List S68) : Bool := friendsB n && pairsB n none l
def codeP (c : S68) : Nat := 10 * c.f0.toNat + c.f1.toNat
def validN (n : Nat) (x : Nat) : Bool := decide (x / 10 < x % 10) && decide (x % 10 < n)
theorem valid_count : ∀ n : Fin 11, (List.range 100).countP (validN n.val) = n.val * (n.val - 1) / 2 := by decide +kernel
theorem valid_code {n : Int} (hn : n ≤ 10) {c : S68} (h : isCallB n c.f0 c.f1 = true) : validN n.toNat (codeP c) = true ∧ codeP c < 100 := by
  obtain ⟨h1, h2, h3⟩ := isCallB_bd h
  have e1 : codeP c / 10 = c.f0.toNat := by unfold codeP; omega
  have e2 : codeP c % 10 = c.f1.toNat := by unfold codeP; omega
  refine ⟨?_, by unfold codeP; omega⟩
  simp only [validN, e1, e2, Bool.and_eq_true, decide_eq_true_eq]
  omega
theorem less_code {n : Int} (hn : n ≤ 10) {c d : S68} (hc : isCallB n c.f0 c.f1 = true) (hd : isCallB n d.f0 d.f1 = true) (h : lessB c d = true) : codeP c < codeP d := by
  obtain ⟨h1, h2, h3⟩ := isCallB_bd hc
  obtain ⟨g1, g2, g3⟩ := isCallB_bd hd
  simp [lessB] at h
  unfold codeP
  omega
theorem range_count (p : Nat → Bool) : ∀ (m s x : Nat), s ≤ x → x < s + m → p x = true → 1 + (List.range' (x + 1) (s + m - (x + 1))).countP p ≤ (List.range' s m).countP p
  | 0, s, x, h1, h2, _ => by omega
  | m + 1, s, x, h1, h2, hp => by
    rw [List.range'_succ, List.countP_cons]
    rcases Nat.lt_or_ge s x with h | h
    · have ih := range_count p m (s + 1) x h (by omega) hp
      rw [show s + (m + 1) - (x + 1) = s + 1 + m - (x + 1) by omega]
      omega
    · have e : x = s := by omega
      subst e
      rw [if_pos hp, show x + (m + 1) - (x + 1) = m by omega]
      omega
theorem pairs_le {n : Int} (hn : n ≤ 10) : ∀ (l : List S68) (p : S68) (_ : isCallB n p.f0 p.f1 = true), pairsB n (some p) l = true → l.length ≤ (List.range' (codeP p + 1) (100 - (codeP p + 1))).countP (validN n.toNat)
  | [], p, _, _ => Nat.zero_le _
  | c :: cs, p, hp, h => by
    simp only [pairsB, Bool.and_eq_true] at h
    obtain ⟨h1, h2, h3⟩ := h
    have ih := pairs_le hn cs c h1 h3
    have v := valid_code hn h1
    have vp := valid_code hn hp
    have lt := less_code hn hp h1 h2
    have := range_count (validN n.toNat) (100 - (codeP p + 1)) (codeP p + 1) (codeP c) lt (by omega) v.1
    rw [show codeP p + 1 + (100 - (codeP p + 1)) - (codeP c + 1) = 100 - (codeP c + 1) by omega] at this
    rw [List.length_cons]
    omega
theorem pairs_length {n : Int} {l : List S68} (h : arePairsB n l = true) : l.length ≤ n.toNat * (n.toNat - 1) / 2 := by
  simp only [arePairsB, friendsB, Bool.and_eq_true, decide_eq_true_eq] at h
  obtain ⟨⟨h1, h2⟩, h3⟩ := h
  have hv := valid_count ⟨n.toNat, by omega⟩
  simp only at hv
  rw [← hv, List.range_eq_range']
  cases l with
  | nil => exact Nat.zero_le _
  | cons c cs =>
    simp only [pairsB, Bool.and_eq_true] at h3
    have v := valid_code h2 h3.1
    have := range_count (validN n.toNat) 100 0 (codeP c) (Nat.zero_le _) (by omega) v.1
    have g := pairs_le h2 cs c h3.1 h3.2
    rw [show 0 + 100 - (codeP c + 1) = 100 - (codeP c + 1) by omega] at this
    rw [List.length_cons]
    omega
theorem pairs_45 {n : Int} {l : List S68} (h : arePairsB n l = true) : 1 ≤ n ∧ n ≤ 10 ∧ l.length ≤ 45 := by
  have hl := pairs_length h
  simp only [arePairsB, friendsB, Bool.and_eq_true, decide_eq_true_eq] at h
  obtain ⟨⟨h1, h2⟩, h3⟩ := h
  have : n.toNat * (n.toNat - 1) ≤ 10 * 9 := Nat.mul_le_mul (by omega) (by omega)
  exact ⟨h1, h2, by omega⟩
theorem pairs_all {n : Int} : ∀ (l : List S68) (o : Option S68), pairsB n o l = true → ∀ c ∈ l, isCallB n c.f0 c.f1 = true
  | [], _, _ => by simp
  | c :: cs, o, h => by
    have h' : isCallB n c.f0 c.f1 = true ∧ pairsB n (some c) cs = true := by
      cases o with
      | none => simpa [pairsB] using h
      | some p => simp only [pairsB, Bool.and_eq_true] at h; exact ⟨h.1, h.2.2⟩
    intro d hd
    rcases List.mem_cons.1 hd with rfl | hd
    · exact h'.1
    · exact pairs_all cs _ h'.2 d hd
theorem arePairs_all {n : Int} {l : List S68} (h : arePairsB n l = true) : ∀ c ∈ l, isCallB n c.f0 c.f1 = true := by
  simp only [arePairsB, Bool.and_eq_true] at h
  exact pairs_all l none h.2
def prevP (l : List S68) (i : Nat) : Option S68 := if i = 0 then none else some (l.getD (i - 1) z68)
theorem pairs_step (n : Int) (l : List S68) (i : Nat) (h : i < l.length) : pairsB n (prevP l i) (l.drop i) = (isCallB n (l.getD i z68).f0 (l.getD i z68).f1 && ((i = 0 || lessB (l.getD (i - 1) z68) (l.getD i z68)) && pairsB n (prevP l (i + 1)) (l.drop (i + 1)))) := by
  rw [drop_at l i z68 h]
  have e : prevP l (i + 1) = some (l.getD i z68) := by simp [prevP]
  rw [e]
  unfold prevP
  by_cases hi : i = 0
  · rw [if_pos hi]; simp [pairsB, hi]
  · rw [if_neg hi]; simp [pairsB, hi]
theorem areFriendsN_f (n : Int) : impl_areFriends.f n = some (friendsB n) := by
  unfold impl_areFriends.f impl_within.f friendsB
  by_cases h1 : 1 ≤ n <;> by_cases h2 : n ≤ 10 <;> simp [h1, h2]
theorem most_pairs : ∀ n : Fin 11, wrap64 (Int.tdiv (wrap64 ((n.val : Int) * (wrap64 ((n.val : Int) - 1)))) 2) = ((n.val * (n.val - 1) / 2 : Nat) : Int) := by decide +kernel
theorem compare_f (a b : Int) : cmp_Compare_int.f a b = some (if a < b then -1 else if a > b then 1 else 0) := by
  unfold cmp_Compare_int.f cmp_isNaN_int.f
  simp only [Option.bind_some, bne_self_eq_false, Bool.false_eq_true, if_false]
  split
  · rfl
  · split <;> rfl
def cmpP (c d : S68) : Int := if c.f0 < d.f0 then -1 else if c.f0 > d.f0 then 1 else if c.f1 < d.f1 then -1 else if c.f1 > d.f1 then 1 else 0
theorem or2_f (x y : Int) (k : Nat) : cmp_Or_int.f (k + 3) [x, y] = some (if x = 0 then y else x) := by
  unfold cmp_Or_int.f
  by_cases hx : x = 0
  · by_cases hy : y = 0
    · simp [cmp_Or_int.l0, rd, hx, hy, wrap64]
    · simp [cmp_Or_int.l0, rd, hx, hy, wrap64]
  · simp [cmp_Or_int.l0, rd, hx, wrap64]
theorem compareCalls_ev (c d : S68) : Ev (fun k => impl_compareCalls.f k c.f0 c.f1 d.f0 d.f1) (cmpP c d) := by
  refine ⟨3, fun k hk => ?_⟩
  obtain ⟨j, rfl⟩ : ∃ j, k = j + 3 := ⟨k - 3, by omega⟩
  unfold impl_compareCalls.f
  simp only [compare_f, Option.bind_some, or2_f]
  congr 1
  unfold cmpP
  by_cases h1 : c.f0 < d.f0
  · simp [h1]
  · by_cases h2 : c.f0 > d.f0
    · simp [h1, h2]
    · simp [h1, h2]
theorem cmpP_less (c d : S68) : (cmpP c d ≥ 0) = (lessB c d = false) := by
  unfold cmpP lessB
  by_cases h1 : c.f0 < d.f0
  · simp [h1]
  · by_cases h2 : c.f0 > d.f0
    · have h3 : ¬ c.f0 = d.f0 := by omega
      simp [h1, h2, h3]
    · have h3 : c.f0 = d.f0 := by omega
      by_cases h4 : c.f1 < d.f1
      · simp [h3, h4]
      · by_cases h5 : c.f1 > d.f1 <;> simp [h3, h4, h5]
/-! rows of rows: compared, marked -/
def totC : List (List S68) → Int
  | [] => 0
  | r :: rs => 2 * (r.length : Int) + totC rs
def markedRC : List (List S68) → Int → List (List S68)
  | [], _ => []
  | r :: rs, m => markedC r.length m :: markedRC rs (m + 2 * (r.length : Int))
def RowsC (l : List (List S68)) : Prop := l.length ≤ 1048576 ∧ ∀ r ∈ l, r.length ≤ 1048576
theorem totC_nonneg : ∀ (l : List (List S68)), 0 ≤ totC l
  | [] => Int.le_refl _
  | r :: rs => by have := totC_nonneg rs; simp only [totC]; omega
theorem totC_le (b : Nat) : ∀ (l : List (List S68)), (∀ r ∈ l, r.length ≤ b) → totC l ≤ 2 * (b : Int) * l.length
  | [], _ => by simp [totC]
  | r :: rs, h => by
    have h1 := totC_le b rs (fun x hx => h x (List.mem_cons_of_mem _ hx))
    have h2 := h r (List.mem_cons_self)
    have e : 2 * (b : Int) * ((r :: rs).length : Nat) = 2 * (b : Int) * (rs.length : Nat) + 2 * (b : Int) := by
      rw [List.length_cons, Int.natCast_succ, Int.mul_add, Int.mul_one]
    rw [e]
    simp only [totC]
    omega
theorem eqCallSS_l0 : ∀ (rest done : List (List S68)), done.length + rest.length ≤ 1048576 → (∀ r ∈ rest, r.length ≤ 1048576) →
    Ev (fun k => laws_eqCallSS.l0 k (done ++ rest) (done ++ rest) (done.length : Int)) true
  | [], done, h, _ => by
    refine ev_step (f := fun _ => some true) (fun k => ?_) (ev_now _)
    simp only [laws_eqCallSS.l0]
    rw [if_neg (by simp)]
  | r :: rest, done, h, hr => by
    simp only [List.length_cons] at h
    have e : rd_L2 (done ++ r :: rest) (done.length : Int) = r := by
      show (done ++ r :: rest).getD ((done.length : Int)).toNat [] = r
      rw [Int.toNat_natCast, getD_len]
    refine ev_step (f := fun k => (laws_eqCallS.f k r r).bind fun t => if t = true then laws_eqCallSS.l0 k (done ++ r :: rest) (done ++ r :: rest) ((done.length : Int) + 1) else some false) (fun k => ?_) ?_
    · simp only [laws_eqCallSS.l0, e]
      rw [if_pos (by rw [List.length_append, List.length_cons]; omega), if_pos (by omega), if_pos (by rw [List.length_append, List.length_cons]; omega), w64 (by omega) (by omega)]
    · refine Ev.bind (eqCallS_ev r (hr r (List.mem_cons_self))) ?_
      simp only [if_true]
      have := eqCallSS_l0 rest (done ++ [r]) (by rw [List.length_append, List.length_singleton]; omega) (fun x hx => hr x (List.mem_cons_of_mem _ hx))
      rw [List.append_assoc, List.singleton_append, List.length_append, List.length_singleton] at this
      simpa using this
theorem eqCallSS_ev (a : List (List S68)) (h : RowsC a) : Ev (fun k => laws_eqCallSS.f k a a) true := by
  unfold laws_eqCallSS.f
  simp only [if_true]
  have := eqCallSS_l0 a [] (by simpa using h.1) h.2
  simpa using this
theorem rowsC_tot {l : List (List S68)} (h1 : l.length ≤ 1000) (h2 : ∀ r ∈ l, r.length ≤ 1048576) : RowsC l ∧ 1 + totC l ≤ 1099511627776 := by
  refine ⟨⟨by omega, h2⟩, ?_⟩
  have := totC_le 1048576 l h2
  omega

/-! rows of calls as an argument: measured, read -/
def toRows (l : List (List S88)) : List (List S68) := l.map toCalls
theorem toRows_length (l : List (List S88)) : (toRows l).length = l.length := by simp [toRows]
def sumL : List (List S88) → Int
  | [] => 0
  | r :: rs => (r.length : Int) + sumL rs
theorem sumL_nonneg : ∀ l : List (List S88), 0 ≤ sumL l
  | [] => Int.le_refl _
  | r :: rs => by have := sumL_nonneg rs; simp only [sumL]; omega
def szF : List (List S88) → Int → Int
  | [], m => m
  | r :: rs, m => if m - (r.length : Int) < 0 then -1 else szF rs (m - (r.length : Int))
def szR (l : List (List S88)) : Int := if 1048576 - (l.length : Int) < 0 then -1 else szF l (1048576 - (l.length : Int))
theorem szF_sum : ∀ (l : List (List S88)) (m : Int), ¬ szF l m < 0 → sumL l ≤ m ∧ ∀ r ∈ l, (r.length : Int) ≤ m
  | [], m, h => ⟨by simp only [szF] at h; simp only [sumL]; omega, fun _ hr => by cases hr⟩
  | r :: rs, m, h => by
    rw [szF] at h
    by_cases hq : m - (r.length : Int) < 0
    · rw [if_pos hq] at h; omega
    · rw [if_neg hq] at h
      obtain ⟨h1, h2⟩ := szF_sum rs _ h
      have := sumL_nonneg rs
      refine ⟨by simp only [sumL]; omega, fun x hx => ?_⟩
      rcases List.mem_cons.1 hx with rfl | hx
      · omega
      · have := h2 x hx; omega
theorem szR_rows {l : List (List S88)} (h : ¬ szR l < 0) : (l.length ≤ 1048576 ∧ ∀ r ∈ l, r.length ≤ 1048576) ∧ sumL l ≤ 1048576 := by
  unfold szR at h
  by_cases hq : 1048576 - (l.length : Int) < 0
  · rw [if_pos hq] at h; omega
  · rw [if_neg hq] at h
    obtain ⟨h1, h2⟩ := szF_sum l _ h
    exact ⟨⟨by omega, fun r hr => by have := h2 r hr; omega⟩, by omega⟩
theorem szCallSS_l0 : ∀ (rest done : List (List S88)) (m : Int), 0 ≤ m → m ≤ 1048576 → done.length + rest.length ≤ 1048576 → (∀ r ∈ rest, r.length ≤ 9223372036854775807) →
    Ev (fun k => laws_szCallSS.l0 k (done ++ rest) m (done.length : Int)) (szF rest m)
  | [], done, m, _, _, _, _ => by
    refine Ev.step (fun k => ?_) (ev_now _)
    simp only [laws_szCallSS.l0]
    rw [if_neg (by simp)]; rfl
  | r :: rest, done, m, h0, h1, h2, h3 => by
    simp only [List.length_cons] at h2
    have e : rd_L4 (done ++ r :: rest) (done.length : Int) = r := by
      show (done ++ r :: rest).getD ((done.length : Int)).toNat [] = r
      rw [Int.toNat_natCast, getD_len]
    have q1 : (done.length : Int) < ((done ++ r :: rest).length : Int) := by rw [List.length_append, List.length_cons]; omega
    have q2 : (0 : Int) ≤ (done.length : Int) := by omega
    have hr := h3 r (List.mem_cons_self)
    have e1 := w64 (show -9223372036854775808 ≤ m - (r.length : Int) by omega) (by omega)
    have e2 : wrap64 ((done.length : Int) + 1) = ((done ++ [r]).length : Int) := by rw [w64 (by omega) (by omega), List.length_append, List.length_singleton]; rfl
    by_cases hq : m - (r.length : Int) < 0
    · rw [szF, if_pos hq]
      have hm1 : (-1 : Int) < 0 := by decide
      exact Ev.step (fun k => by simp only [laws_szCallSS.l0, if_pos q1, if_pos q2, e, laws_szCallS.f, e1, if_pos hq, Option.bind_some, if_pos hm1] <;> exact rfl) (ev_now _)
    · rw [szF, if_neg hq]
      have ih := szCallSS_l0 rest (done ++ [r]) (m - (r.length : Int)) (by omega) (by omega) (by rw [List.length_append, List.length_singleton]; omega) (fun x hx => h3 x (List.mem_cons_of_mem _ hx))
      rw [List.append_assoc, List.singleton_append] at ih
      exact Ev.step (fun k => by simp only [laws_szCallSS.l0, if_pos q1, if_pos q2, e, laws_szCallS.f, e1, if_neg hq, Option.bind_some, e2] <;> exact rfl) ih
theorem szCallSS_ev (l : List (List S88)) (h : l.length ≤ 9223372036854775807) (h2 : ∀ r ∈ l, r.length ≤ 9223372036854775807) : Ev (fun k => laws_szCallSS.f k l 1048576) (szR l) := by
  unfold laws_szCallSS.f szR
  rw [w64 (by omega) (by omega)]
  by_cases hq : 1048576 - (l.length : Int) < 0
  · simp only [if_pos hq]; exact ev_now _
  · simp only [if_neg hq]
    have := szCallSS_l0 l [] (1048576 - (l.length : Int)) (by omega) (by omega) (by simp; omega) h2
    simpa using this
theorem toCallSS_l0 (l : List (List S88)) (h : l.length ≤ 1048576) (hr : ∀ r ∈ l, r.length ≤ 1048576) : ∀ (d i : Nat), i + d = l.length →
    Ev (fun k => laws_toCallSS.l0 k l ((toRows l).take i ++ List.replicate d []) (i : Int)) (toRows l) := by
  intro d
  have hl := toRows_length l
  induction d with
  | zero =>
    intro i hi
    have hi' : ¬ (i : Int) < (l.length : Int) := by omega
    refine Ev.step (fun k => by simp only [laws_toCallSS.l0, if_neg hi'] <;> exact rfl) ?_
    rw [List.take_of_length_le (by omega), List.replicate_zero, List.append_nil]
    exact ev_now _
  | succ d ih =>
    intro i hi
    have q1 : (i : Int) < (l.length : Int) := by omega
    have q2 : (0 : Int) ≤ (i : Int) := by omega
    have ht : ((toRows l).take i).length = i := by rw [List.length_take]; omega
    have q3 : (i : Int) < (((toRows l).take i ++ List.replicate (d + 1) ([] : List S68)).length : Int) := by rw [List.length_append, ht, List.length_replicate]; omega
    have hm : l.getD i [] ∈ l := by rw [getD_at _ _ _ (show i < l.length by omega)]; exact List.getElem_mem _
    have e2 := w64 (show -9223372036854775808 ≤ (i : Int) + 1 by omega) (by omega)
    refine Ev.step (fun k => by simp only [laws_toCallSS.l0, if_pos q1, if_pos q2, if_pos q3, e2] <;> exact rfl) (Ev.bind (toCallS_ev (rd_L4 l (i : Int)) (hr _ hm)) ?_)
    have e : ((toRows l).take i ++ List.replicate (d + 1) ([] : List S68)).set ((i : Int)).toNat (toCalls (rd_L4 l (i : Int))) = (toRows l).take (i + 1) ++ List.replicate d [] := by
      rw [Int.toNat_natCast, List.replicate_succ, take_at (toRows l) i [] (by omega)]
      have := set_len ((toRows l).take i) (List.replicate d ([] : List S68)) [] (toCalls (rd_L4 l (i : Int)))
      rw [ht] at this
      rw [this, List.append_assoc, List.singleton_append, toRows, getD_map toCalls l i [] [] (by omega)]
      rfl
    rw [e]
    exact ih (i + 1) (by omega)
theorem toCallSS_ev (l : List (List S88)) (h : l.length ≤ 1048576 ∧ ∀ r ∈ l, r.length ≤ 1048576) : Ev (fun k => laws_toCallSS.f k l) (toRows l) := by
  unfold laws_toCallSS.f
  have h1 : (0 : Int) ≤ (l.length : Int) := by omega
  have h2 : l.length ≤ 11728124029610 := by have := h.1; omega
  simp only [if_pos h1, Int.toNat_natCast, if_pos h2]
  have := toCallSS_l0 l h.1 h.2 l.length 0 (by omega)
  simpa using this

theorem toRows_rows {l : List (List S88)} (h : l.length ≤ 1048576 ∧ ∀ r ∈ l, r.length ≤ 1048576) : RowsC (toRows l) := by
  refine ⟨by rw [toRows_length]; exact h.1, fun r hr => ?_⟩
  obtain ⟨x, hx, rfl⟩ := List.mem_map.1 hr
  rw [toCalls_length]; exact h.2 x hx
theorem totC_rows : ∀ l : List (List S88), totC (toRows l) = 2 * sumL l
  | [] => rfl
  | r :: rs => by
    have := totC_rows rs
    show 2 * ((toCalls r).length : Int) + totC (toRows rs) = 2 * ((r.length : Int) + sumL rs)
    rw [toCalls_length, this]; omega
theorem toRows_tot {l : List (List S88)} (h : sumL l ≤ 1048576) : 1 + totC (toRows l) ≤ 1099511627776 := by rw [totC_rows]; omega

/-! rounds: whether rows of calls are rounds -/
theorem pow_small : ∀ a : Fin 10, 2 ^ a.val < 1024 := by decide
theorem ownS (a : Int) (h0 : 0 ≤ a) (h1 : a < 10) : 0 ≤ ((2 ^ a.toNat : Nat) : Int) ∧ ((2 ^ a.toNat : Nat) : Int) < 1024 := by
  have := pow_small ⟨a.toNat, by omega⟩
  exact ⟨Int.natCast_nonneg _, Int.ofNat_lt.mpr this⟩
theorem orS {a b : Int} (ha : 0 ≤ a ∧ a < 1024) (hb : 0 ≤ b ∧ b < 1024) : 0 ≤ orI a b ∧ orI a b < 1024 := by
  have h := orI_lt (n := 10) (a := a) (b := b) (by simpa using ha) (by simpa using hb)
  simpa using h
def pairOf (c : S68) : Int := orI ((2 ^ c.f0.toNat : Nat) : Int) ((2 ^ c.f1.toNat : Nat) : Int)
def roundAt (n : Int) (l : List S68) : Nat → Nat → Int → Bool
  | 0, _, _ => true
  | d + 1, i, s => isCallB n (l.getD i z68).f0 (l.getD i z68).f1 && (!bitB s (l.getD i z68).f0 && (!bitB s (l.getD i z68).f1 && ((decide (i = 0) || lessB (l.getD (i - 1) z68) (l.getD i z68)) && roundAt n l d (i + 1) (orI s (pairOf (l.getD i z68))))))
def isRoundB (n : Int) (l : List S68) : Bool := roundAt n l l.length 0 0
def areRoundsB (n : Int) (l : List (List S68)) : Bool := decide (1 ≤ n) && (decide (n ≤ 10) && (decide (l.length ≤ 20) && l.all (isRoundB n)))
theorem roLess_f (c d : S68) : spec_roLess.f c.f0 c.f1 d.f0 d.f1 = some (lessB c d) := by
  unfold spec_roLess.f lessB
  by_cases h1 : c.f0 < d.f0
  · simp [h1]
  · by_cases h2 : c.f0 = d.f0 <;> simp [h1, h2]
theorem roGood_l1 (n : Int) (h1 : 1 ≤ n) (h2 : n ≤ 10) (r : List S68) (h : r.length ≤ 1048576) (all : List (List S68)) (j : Nat) (hj : j ≤ 1048576) (R : Bool) : ∀ (d i : Nat) (s : Int), i + d = r.length → 0 ≤ s ∧ s < 1024 →
    (roundAt n r d i s = false → R = false) → (roundAt n r d i s = true → Ev (fun k => spec_roGood.l0 k n all (all.length : Int) ((j + 1 : Nat) : Int)) R) →
    Ev (fun k => spec_roGood.l1 k n r s all (all.length : Int) (j : Int) r (r.length : Int) (i : Int)) R := by
  intro d
  induction d with
  | zero =>
    intro i s hi hs g1 g2
    have hi' : ¬ (i : Int) < (r.length : Int) := by omega
    exact Ev.step (fun k => by simp only [spec_roGood.l1, if_neg hi', w64 (show -9223372036854775808 ≤ (j : Int) + 1 by omega) (by omega)] <;> exact rfl) (g2 rfl)
  | succ d ih =>
    intro i s hi hs g1 g2
    have q1 : (i : Int) < (r.length : Int) := by omega
    have q2 : (0 : Int) ≤ (i : Int) := by omega
    have e : rd_T68 r (i : Int) = r.getD i z68 := rfl
    rw [roundAt] at g1 g2
    cases hq : isCallB n (r.getD i z68).f0 (r.getD i z68).f1 with
    | false =>
      rw [hq, Bool.false_and] at g1
      rw [g1 rfl]
      exact Ev.step (fun k => by simp only [spec_roGood.l1, if_pos q1, if_pos q2, e, caCall_f n _ _ h1 h2, Option.bind_some, hq, Bool.false_eq_true, if_false] <;> exact rfl) (ev_now _)
    | true =>
      obtain ⟨a1, a2, a3⟩ := isCallB_bd hq
      have b1 := bit_i64 (a := (r.getD i z68).f0) hs a1 (by omega)
      have b2 := bit_i64 (a := (r.getD i z68).f1) hs (by omega) (by omega)
      have q3 : 0 ≤ (r.getD i z68).f1 := by omega
      rw [hq, Bool.true_and] at g1 g2
      cases hb1 : bitB s (r.getD i z68).f0 with
      | true =>
        rw [hb1, Bool.not_true, Bool.false_and] at g1
        rw [g1 rfl]
        exact Ev.step (fun k => by simp only [spec_roGood.l1, if_pos q1, if_pos q2, e, caCall_f n _ _ h1 h2, Option.bind_some, hq, if_true, if_pos a1, b1, hb1] <;> exact rfl) (ev_now _)
      | false =>
        rw [hb1, Bool.not_false, Bool.true_and] at g1 g2
        cases hb2 : bitB s (r.getD i z68).f1 with
        | true =>
          rw [hb2, Bool.not_true, Bool.false_and] at g1
          rw [g1 rfl]
          exact Ev.step (fun k => by simp only [spec_roGood.l1, if_pos q1, if_pos q2, e, caCall_f n _ _ h1 h2, Option.bind_some, hq, if_true, if_pos a1, b1, hb1, Bool.false_eq_true, if_false, if_pos q3, b2, hb2] <;> exact rfl) (ev_now _)
        | false =>
          rw [hb2, Bool.not_false, Bool.true_and] at g1 g2
          have o1 := ownS (r.getD i z68).f0 a1 (by omega)
          have o2 := ownS (r.getD i z68).f1 q3 (by omega)
          have eo : Go.bits .or .i64 s (Go.bits .or .i64 (shl .i64 1 (r.getD i z68).f0) (shl .i64 1 (r.getD i z68).f1)) = orI s (pairOf (r.getD i z68)) := by
            rw [shl_i64_at _ a1 (by omega), shl_i64_at _ q3 (by omega), or_i64 o1 o2, or_i64 hs (orS o1 o2)]; rfl
          have EI := Aside0.mk (w64 (show -9223372036854775808 ≤ (i : Int) + 1 by omega) (by omega))
          have ih' := ih (i + 1) (orI s (pairOf (r.getD i z68))) (by omega) (orS hs (orS o1 o2))
          by_cases h0 : i = 0
          · have q4 : ¬ (i : Int) > 0 := by omega
            rw [decide_eq_true h0, Bool.true_or, Bool.true_and] at g1 g2
            exact Ev.step (fun k => by simp only [spec_roGood.l1, if_pos q1, if_pos q2, e, caCall_f n _ _ h1 h2, Option.bind_some, hq, if_true, if_pos a1, b1, hb1, Bool.false_eq_true, if_false, if_pos q3, b2, hb2, if_neg q4, eo, EI.out] <;> exact rfl) (ih' g1 g2)
          · have q4 : (i : Int) > 0 := by omega
            have EP : Aside0 (wrap64 ((i : Int) - 1) = ((i - 1 : Nat) : Int)) := ⟨by rw [w64 (by omega) (by omega)]; omega⟩
            have q5 : (0 : Int) ≤ ((i - 1 : Nat) : Int) := by omega
            have q6 : ((i - 1 : Nat) : Int) < (r.length : Int) := by omega
            have e' : rd_T68 r ((i - 1 : Nat) : Int) = r.getD (i - 1) z68 := rfl
            rw [decide_eq_false h0, Bool.false_or] at g1 g2
            cases hl : lessB (r.getD (i - 1) z68) (r.getD i z68) with
            | false =>
              rw [hl, Bool.false_and] at g1
              rw [g1 rfl]
              exact Ev.step (fun k => by simp only [spec_roGood.l1, if_pos q1, if_pos q2, e, caCall_f n _ _ h1 h2, Option.bind_some, hq, if_true, if_pos a1, b1, hb1, Bool.false_eq_true, if_false, if_pos q3, b2, hb2, if_pos q4, EP.out, if_pos q5, if_pos q6, e', roLess_f, hl] <;> exact rfl) (ev_now _)
            | true =>
              rw [hl, Bool.true_and] at g1 g2
              exact Ev.step (fun k => by simp only [spec_roGood.l1, if_pos q1, if_pos q2, e, caCall_f n _ _ h1 h2, Option.bind_some, hq, if_true, if_pos a1, b1, hb1, Bool.false_eq_true, if_false, if_pos q3, b2, hb2, if_pos q4, EP.out, if_pos q5, if_pos q6, e', roLess_f, hl, eo, EI.out] <;> exact rfl) (ih' g1 g2)
theorem roGood_l0 (n : Int) (h1 : 1 ≤ n) (h2 : n ≤ 10) (all : List (List S68)) (h : all.length ≤ 1048576 ∧ ∀ r ∈ all, r.length ≤ 1048576) : ∀ (d j : Nat), j + d = all.length → Ev (fun k => spec_roGood.l0 k n all (all.length : Int) (j : Int)) ((all.drop j).all (isRoundB n)) := by
  intro d
  induction d with
  | zero =>
    intro j hj
    have hj' : ¬ (j : Int) < (all.length : Int) := by omega
    refine Ev.step (fun k => by simp only [spec_roGood.l0, if_neg hj'] <;> exact rfl) ?_
    rw [List.drop_eq_nil_of_le (by omega)]; exact ev_now _
  | succ d ih =>
    intro j hj
    have q1 : (j : Int) < (all.length : Int) := by omega
    have q2 : (0 : Int) ≤ (j : Int) := by omega
    have hm : all.getD j [] ∈ all := by rw [getD_at _ _ _ (show j < all.length by omega)]; exact List.getElem_mem _
    have hb := h.1
    rw [drop_at all j [] (by omega), List.all_cons]
    refine Ev.step (fun k => by simp only [spec_roGood.l0, if_pos q1, if_pos q2] <;> exact rfl) ?_
    refine roGood_l1 n h1 h2 (all.getD j []) (h.2 _ hm) all j (by omega) _ (all.getD j []).length 0 0 (by omega) (by omega) (fun hf => ?_) (fun ht => ?_)
    · have hf' : isRoundB n (all.getD j []) = false := hf
      rw [hf', Bool.false_and]
    · have ht' : isRoundB n (all.getD j []) = true := ht
      rw [ht', Bool.true_and]
      exact ih (j + 1) (by omega)
theorem roGood_ev (n : Int) (l : List (List S68)) (h : l.length ≤ 1048576 ∧ ∀ r ∈ l, r.length ≤ 1048576) : Ev (fun k => spec_roGood.f k n l) (areRoundsB n l) := by
  unfold spec_roGood.f areRoundsB
  simp only [caFriends_f, Option.bind_some]
  by_cases h1 : 1 ≤ n
  · by_cases h2 : n ≤ 10
    · by_cases h3 : l.length ≤ 20
      · have h3' : ¬ (l.length : Int) > 20 := by omega
        simp only [h1, h2, h3, h3', decide_true, decide_false, Bool.true_and, if_true]
        have := roGood_l0 n h1 h2 l h l.length 0 (by omega)
        exact Ev.step (fun k => by simp only [spec_roGood.j0, Bool.false_eq_true, if_false] <;> exact rfl) (by simpa using this)
      · have h3' : (l.length : Int) > 20 := by omega
        simp only [h1, h2, h3, h3', decide_true, decide_false, Bool.true_and, Bool.false_and, if_true]
        exact Ev.step (fun k => by simp only [spec_roGood.j0, if_true] <;> exact rfl) (ev_now _)
    · simp only [h1, h2, decide_true, decide_false, Bool.true_and, Bool.false_and, Bool.false_eq_true, if_false]
      exact Ev.step (fun k => by simp only [spec_roGood.j0, if_true] <;> exact rfl) (ev_now _)
  · simp only [h1, decide_false, Bool.false_and, Bool.false_eq_true, if_false]
    exact Ev.step (fun k => by simp only [spec_roGood.j0, if_true] <;> exact rfl) (ev_now _)
theorem isRound_l0 (n : Int) (h2 : n ≤ 10) (r : List S68) (h : r.length ≤ 1048576) : ∀ (d i : Nat) (s : Int), i + d = r.length → 0 ≤ s ∧ s < 1024 →
    Ev (fun k => impl_isRound.l0 k n r s r (r.length : Int) (i : Int)) (roundAt n r d i s) := by
  intro d
  induction d with
  | zero =>
    intro i s hi hs
    have hi' : ¬ (i : Int) < (r.length : Int) := by omega
    exact Ev.step (fun k => by simp only [impl_isRound.l0, if_neg hi'] <;> exact rfl) (ev_now _)
  | succ d ih =>
    intro i s hi hs
    have q1 : (i : Int) < (r.length : Int) := by omega
    have q2 : (0 : Int) ≤ (i : Int) := by omega
    have e : rd_T68 r (i : Int) = r.getD i z68 := rfl
    rw [roundAt]
    cases hq : isCallB n (r.getD i z68).f0 (r.getD i z68).f1 with
    | false =>
      rw [Bool.false_and]
      exact Ev.step (fun k => by simp only [impl_isRound.l0, if_pos q1, if_pos q2, e, isCall_f, Option.bind_some, hq, Bool.false_eq_true, if_false] <;> exact rfl) (ev_now _)
    | true =>
      obtain ⟨a1, a2, a3⟩ := isCallB_bd hq
      have b1 := bit_u16 (a := (r.getD i z68).f0) hs a1 (by omega)
      have b2 := bit_u16 (a := (r.getD i z68).f1) hs (by omega) (by omega)
      have q3 : 0 ≤ (r.getD i z68).f1 := by omega
      rw [Bool.true_and]
      cases hb1 : bitB s (r.getD i z68).f0 with
      | true =>
        rw [Bool.not_true, Bool.false_and]
        exact Ev.step (fun k => by simp only [impl_isRound.l0, if_pos q1, if_pos q2, e, isCall_f, Option.bind_some, hq, if_true, if_pos a1, b1, hb1] <;> exact rfl) (ev_now _)
      | false =>
        rw [Bool.not_false, Bool.true_and]
        cases hb2 : bitB s (r.getD i z68).f1 with
        | true =>
          rw [Bool.not_true, Bool.false_and]
          exact Ev.step (fun k => by simp only [impl_isRound.l0, if_pos q1, if_pos q2, e, isCall_f, Option.bind_some, hq, if_true, if_pos a1, b1, hb1, Bool.false_eq_true, if_false, if_pos q3, b2, hb2] <;> exact rfl) (ev_now _)
        | false =>
          rw [Bool.not_false, Bool.true_and]
          have o1 := ownS (r.getD i z68).f0 a1 (by omega)
          have o2 := ownS (r.getD i z68).f1 q3 (by omega)
          have eo : Go.bits .or .u16 s (Go.bits .or .u16 (shl .u16 1 (r.getD i z68).f0) (shl .u16 1 (r.getD i z68).f1)) = orI s (pairOf (r.getD i z68)) := by
            rw [shl_u16_at _ a1 (by omega), shl_u16_at _ q3 (by omega), or_u16 o1 o2, or_u16 hs (orS o1 o2)]; rfl
          have EI := Aside0.mk (w64 (show -9223372036854775808 ≤ (i : Int) + 1 by omega) (by omega))
          have ih' := ih (i + 1) (orI s (pairOf (r.getD i z68))) (by omega) (orS hs (orS o1 o2))
          by_cases h0 : i = 0
          · have q4 : ¬ (i : Int) > 0 := by omega
            rw [decide_eq_true h0, Bool.true_or, Bool.true_and]
            exact Ev.step (fun k => by simp only [impl_isRound.l0, if_pos q1, if_pos q2, e, isCall_f, Option.bind_some, hq, if_true, if_pos a1, b1, hb1, Bool.false_eq_true, if_false, if_pos q3, b2, hb2, if_neg q4, eo, EI.out] <;> exact rfl) ih'
          · have q4 : (i : Int) > 0 := by omega
            have EP : Aside0 (wrap64 ((i : Int) - 1) = ((i - 1 : Nat) : Int)) := ⟨by rw [w64 (by omega) (by omega)]; omega⟩
            have q5 : (0 : Int) ≤ ((i - 1 : Nat) : Int) := by omega
            have q6 : ((i - 1 : Nat) : Int) < (r.length : Int) := by omega
            have e' : rd_T68 r ((i - 1 : Nat) : Int) = r.getD (i - 1) z68 := rfl
            rw [decide_eq_false h0, Bool.false_or]
            refine Ev.step (fun k => by simp only [impl_isRound.l0, if_pos q1, if_pos q2, e, isCall_f, Option.bind_some, hq, if_true, if_pos a1, b1, hb1, Bool.false_eq_true, if_false, if_pos q3, b2, hb2, if_pos q4, EP.out, if_pos q5, if_pos q6, e', eo, EI.out] <;> exact rfl) (Ev.bind (compareCalls_ev _ _) ?_)
            simp only [cmpP_less]
            cases hl : lessB (r.getD (i - 1) z68) (r.getD i z68) with
            | false => simp only [if_true, Bool.false_and]; exact ev_now _
            | true => simp only [Bool.true_eq_false, if_false, Bool.true_and]; exact ih'
theorem isRound_ev (n : Int) (h2 : n ≤ 10) (r : List S68) (h : r.length ≤ 1048576) : Ev (fun k => impl_isRound.f k n r) (isRoundB n r) := by
  unfold impl_isRound.f
  exact isRound_l0 n h2 r h r.length 0 0 (by omega) (by omega)
theorem anyO_ev (n : Int) (h2 : n ≤ 10) : ∀ l : List (List S68), (∀ r ∈ l, r.length ≤ 1048576) → Ev (fun k => Go.Proofs.Ytnlmalicpckfbaa.H.anyO (impl_AreRounds.g k n) l) (!l.all (isRoundB n))
  | [], _ => ev_now _
  | r :: l, h => by
    have ih := anyO_ev n h2 l (fun x hx => h x (List.mem_cons_of_mem _ hx))
    show Ev (fun k => (impl_AreRounds.g k n r).bind fun b => if b = true then some true else Go.Proofs.Ytnlmalicpckfbaa.H.anyO (impl_AreRounds.g k n) l) _
    have hg : Ev (fun k => impl_AreRounds.g k n r) (!isRoundB n r) := by
      unfold impl_AreRounds.g
      exact Ev.bind (isRound_ev n h2 r (h r List.mem_cons_self)) (ev_now _)
    refine Ev.bind hg ?_
    rw [List.all_cons]
    cases isRoundB n r with
    | false => simpa using ev_now _
    | true => simpa using ih
theorem areRounds_ev (n : Int) (l : List (List S68)) (h : l.length ≤ 1048576 ∧ ∀ r ∈ l, r.length ≤ 1048576) : Ev (fun k => impl_AreRounds.f k n l) (areRoundsB n l) := by
  unfold impl_AreRounds.f areRoundsB
  by_cases hc : 1 ≤ n ∧ n ≤ 10 ∧ l.length ≤ 20
  · simp only [if_pos hc, hc.1, hc.2.1, hc.2.2, decide_true, Bool.true_and]
    refine Ev.bind (anyO_ev n hc.2.1 l h.2) ?_
    rw [Bool.not_not]
    exact ev_now _
  · have e : (decide (1 ≤ n) && (decide (n ≤ 10) && (decide (l.length ≤ 20) && l.all (isRoundB n)))) = false := by
      rw [Bool.eq_false_iff]
      intro hh
      simp only [Bool.and_eq_true, decide_eq_true_eq] at hh
      exact hc ⟨hh.1, hh.2.1, hh.2.2.1⟩
    simp only [if_neg hc]
    rw [e]
    exact ev_now _
theorem areRoundsB_true {n : Int} {l : List (List S68)} (h : areRoundsB n l = true) : 1 ≤ n ∧ n ≤ 10 ∧ l.length ≤ 20 ∧ ∀ r ∈ l, isRoundB n r = true := by
  simp only [areRoundsB, Bool.and_eq_true, decide_eq_true_eq] at h
  exact ⟨h.1, h.2.1, h.2.2.1, List.all_eq_true.1 h.2.2.2⟩
theorem round_pairs (n : Int) (r : List S68) : ∀ (d i : Nat) (s : Int), i + d = r.length → roundAt n r d i s = true → pairsB n (prevP r i) (r.drop i) = true := by
  intro d
  induction d with
  | zero =>
    intro i s hi _
    rw [List.drop_eq_nil_of_le (by omega)]
    cases prevP r i <;> rfl
  | succ d ih =>
    intro i s hi h
    simp only [roundAt, Bool.and_eq_true, Bool.or_eq_true, decide_eq_true_eq] at h
    obtain ⟨h1, _, _, h2, h3⟩ := h
    have ih' := ih (i + 1) _ (by omega) h3
    rw [drop_at r i z68 (by omega)]
    have e : prevP r (i + 1) = some (r.getD i z68) := by simp [prevP]
    rw [e] at ih'
    rcases h2 with h2 | h2
    · subst h2
      simp only [prevP, if_true, pairsB, Bool.and_eq_true]
      exact ⟨h1, ih'⟩
    · by_cases h0 : i = 0
      · subst h0
        simp only [prevP, if_true, pairsB, Bool.and_eq_true]
        exact ⟨h1, ih'⟩
      · simp only [prevP, if_neg h0, pairsB, Bool.and_eq_true]
        exact ⟨h1, h2, ih'⟩
theorem round_all {n : Int} {l : List (List S68)} (h : areRoundsB n l = true) : ∀ r ∈ l, r.length ≤ 45 ∧ ∀ c ∈ r, isCallB n c.f0 c.f1 = true := by
  intro r hr
  obtain ⟨h1, h2, h3, h4⟩ := areRoundsB_true h
  have hp : pairsB n none r = true := by
    have := round_pairs n r r.length 0 0 (by omega) (h4 r hr)
    simpa [prevP] using this
  have hg : arePairsB n r = true := by simp [arePairsB, friendsB, h1, h2, hp]
  exact ⟨(pairs_45 hg).2.2, arePairs_all hg⟩

/-! strings as lists of bytes -/
theorem bext {a b : ByteArray} (h : a.data.toList = b.data.toList) : a = b := by
  cases a with | mk a => cases b with | mk b => exact congrArg ByteArray.mk (Array.ext' h)
theorem bapp (a b : ByteArray) : (a ++ b).data.toList = a.data.toList ++ b.data.toList := by rw [ByteArray.data_append, Array.toList_append]
theorem bsize (a : ByteArray) : a.size = a.data.toList.length := (Array.length_toList).symm
theorem bsize_app (a b : ByteArray) : (a ++ b).size = a.size + b.size := by rw [bsize, bsize, bsize, bapp, List.length_append]

/-! texts: pieces with a byte between them -/
def joinT (s : UInt8) (xs : List ByteArray) : ByteArray := ⟨(Lib.join (xs.map (·.data.toList)) [s]).toArray⟩
theorem joinT_nil (s : UInt8) : joinT s [] = ⟨#[]⟩ := rfl
theorem joinT_one (s : UInt8) (x : ByteArray) : joinT s [x] = x := bext (by simp [joinT, Lib.join_one])
theorem joinT_snoc (s : UInt8) (xs : List ByteArray) (y : ByteArray) (h : xs ≠ []) : joinT s (xs ++ [y]) = (joinT s xs ++ ⟨#[s]⟩) ++ y := by
  cases xs with
  | nil => exact absurd rfl h
  | cons x r =>
    apply bext
    rw [bapp, bapp]
    simp only [joinT, List.cons_append, List.map_cons, List.map_append, List.map_nil, Lib.join_cons, Lib.joinTail]
    simp
theorem joinT_size (s : UInt8) (m : Nat) : ∀ (xs : List ByteArray), (∀ x ∈ xs, x.size ≤ m) → (joinT s xs).size ≤ xs.length * (m + 1) := by
  intro xs h
  cases xs with
  | nil => rw [joinT_nil]; exact Nat.zero_le _
  | cons x r =>
    have hl : ∀ (l : List ByteArray), (∀ x ∈ l, x.size ≤ m) → Lib.lens (l.map (·.data.toList)) ≤ l.length * m := by
      intro l
      induction l with
      | nil => intro _; simp [Lib.lens]
      | cons y l ih =>
        intro h
        have h1 := ih (fun x hx => h x (List.mem_cons_of_mem _ hx))
        have h2 := h y List.mem_cons_self
        rw [bsize] at h2
        simp only [Lib.lens, List.map_cons, List.sum_cons, List.length_cons, Nat.add_mul, Nat.one_mul] at h1 ⊢
        omega
    have h1 := hl (x :: r) h
    rw [bsize]
    simp only [joinT, List.map_cons] at h1 ⊢
    rw [Lib.join_length]
    simp only [List.length_map, List.length_cons, List.length_nil] at h1 ⊢
    have e1 : (r.length + 1) * (m + 1) = (r.length + 1) * m + (r.length + 1) := by rw [Nat.mul_add, Nat.mul_one]
    omega
theorem joinT_step (s : UInt8) {α : Type} (f : α → ByteArray) (l : List α) (i : Nat) (d : α) (h0 : 0 < i) (hi : i < l.length) : joinT s ((l.take (i + 1)).map f) = (joinT s ((l.take i).map f) ++ ⟨#[s]⟩) ++ f (l.getD i d) := by
  rw [take_at l i d hi, List.map_append, List.map_cons, List.map_nil, joinT_snoc]
  intro he
  have h1 : ((l.take i).map f).length = 0 := by rw [he]; rfl
  rw [List.length_map, List.length_take] at h1
  omega
theorem joinT_step0 (s : UInt8) {α : Type} (f : α → ByteArray) (l : List α) (d : α) (hi : 0 < l.length) : joinT s ((l.take (0 + 1)).map f) = f (l.getD 0 d) := by
  rw [take_at l 0 d hi]
  simp [joinT_one]
theorem join_f (s : UInt8) (xs : List ByteArray) (m : Nat) (h : ∀ x ∈ xs, x.size ≤ m) (hb : xs.length * (m + 1) ≤ 140737488355328) : strings_Join.f xs ⟨#[s]⟩ = some (joinT s xs) := by
  have h1 := joinT_size s m xs h
  rw [bsize] at h1
  unfold strings_Join.f
  have e : ((joinT s xs).data.toList).length = (Lib.join (xs.map (·.data.toList)) (⟨#[s]⟩ : ByteArray).data.toList).length := by simp [joinT]
  have h2 : xs.length ≤ xs.length * (m + 1) := Nat.le_mul_of_pos_right _ (by omega)
  rw [if_pos ⟨by rw [← e]; omega, by omega⟩]
  rfl
def numT (a : Int) : ByteArray := strOfNums [48 + a]
theorem numT_size (a : Int) : (numT a).size = 1 := strOfNums_size _
theorem l1Num_ev (a : Int) (h0 : 0 ≤ a) (h1 : a < 10) : Ev (fun k => spec_l1Num.f k a) (numT a) := by
  refine ev_step (f := fun _ => some (numT a)) (fun k => ?_) (ev_now _)
  simp only [spec_l1Num.f]
  rw [if_pos h1, w64 (by omega) (by omega), show (48 + a) % 256 = 48 + a by omega]
  rfl

theorem isCallB_nums {a b : Int} (h : isCallB 10 a b = true) : 0 ≤ a ∧ a < 10 ∧ 0 ≤ b ∧ b < 10 := by
  simp [isCallB] at h
  omega
/-! the text of calls -/
def txtC (c : S68) : ByteArray := numT c.f0 ++ numT c.f1
theorem txtC_size (c : S68) : (txtC c).size = 2 := by rw [txtC, bsize_app, numT_size, numT_size]
theorem txtC_of (a b : Int) (h : 0 ≤ a ∧ a < 10) (g : 0 ≤ b ∧ b < 10) : strOfNums [(wrap64 (48 + a)) % 256, (wrap64 (48 + b)) % 256] = numT a ++ numT b := by
  rw [w64 (by omega) (by omega), w64 (by omega) (by omega), show (48 + a) % 256 = 48 + a by omega, show (48 + b) % 256 = 48 + b by omega]
  apply bext
  rw [bapp]
  rfl
def textC (l : List S68) : ByteArray := joinT 45 (l.map txtC)
theorem textC_size (l : List S68) : (textC l).size ≤ l.length * 3 := by
  have := joinT_size 45 2 (l.map txtC) (fun x hx => by obtain ⟨c, _, rfl⟩ := List.mem_map.1 hx; rw [txtC_size]; exact Nat.le_refl _)
  rwa [List.length_map] at this
theorem caText_l0 (l : List S68) (hl : l.length ≤ 1048576) (hc : ∀ c ∈ l, isCallB 10 c.f0 c.f1 = true) : ∀ (d i : Nat), i + d = l.length →
    Ev (fun k => spec_caText.l0 k (joinT 45 ((l.take i).map txtC)) l (l.length : Int) (i : Int)) (textC l) := by
  intro d
  induction d with
  | zero =>
    intro i hi
    have hi' : ¬ (i : Int) < (l.length : Int) := by omega
    refine Ev.step (fun k => by simp only [spec_caText.l0, if_neg hi'] <;> exact rfl) ?_
    rw [List.take_of_length_le (by omega)]
    exact ev_now _
  | succ d ih =>
    intro i hi
    have hlt : i < l.length := by omega
    have q1 : (i : Int) < (l.length : Int) := by omega
    have q2 : (0 : Int) ≤ (i : Int) := by omega
    have hm := hc (l.getD i z68) (by rw [getD_at _ _ _ hlt]; exact List.getElem_mem hlt)
    have hsz : (joinT 45 ((l.take i).map txtC)).size ≤ 3 * 1048576 := by
      have := textC_size (l.take i)
      rw [List.length_take] at this
      show (textC (l.take i)).size ≤ _
      omega
    have hn := ih (i + 1) (by omega)
    have hc1 := isCallB_nums hm
    have ei := w64 (show -9223372036854775808 ≤ (i : Int) + 1 by omega) (by omega)
    have er : rd_T68 l (i : Int) = l.getD i z68 := rfl
    have e1 := l1Num_ev _ hc1.1 hc1.2.1
    have e2 := l1Num_ev _ hc1.2.2.1 hc1.2.2.2
    by_cases h0 : i = 0
    · subst h0
      have q3 : ¬ ((0 : Nat) : Int) > 0 := by omega
      refine Ev.step (fun k => by simp only [spec_caText.l0, if_pos q1, if_pos q2, if_neg q3, er, ei] <;> exact rfl) ?_
      refine Ev.bind e1 ?_
      refine Ev.bind e2 ?_
      have p1 : (numT (l.getD 0 z68).f0).size + (numT (l.getD 0 z68).f1).size ≤ 9223372036854775807 := by rw [numT_size, numT_size]; omega
      have p2 : (joinT 45 ((l.take 0).map txtC)).size + (numT (l.getD 0 z68).f0 ++ numT (l.getD 0 z68).f1).size ≤ 9223372036854775807 := by rw [bsize_app, numT_size, numT_size]; omega
      simp only [if_pos p1, if_pos p2]
      rw [joinT_step0 45 txtC l z68 hlt] at hn
      have e3 : joinT 45 ((l.take 0).map txtC) ++ (numT (l.getD 0 z68).f0 ++ numT (l.getD 0 z68).f1) = txtC (l.getD 0 z68) := by
        apply bext; rw [bapp]; rfl
      rw [e3]
      exact hn
    · have q3 : (i : Int) > 0 := by omega
      have q4 : (joinT 45 ((l.take i).map txtC)).size + 1 ≤ 9223372036854775807 := by omega
      refine Ev.step (fun k => by simp only [spec_caText.l0, if_pos q1, if_pos q2, if_pos q3, if_pos q4, er, ei] <;> exact rfl) ?_
      refine Ev.bind e1 ?_
      refine Ev.bind e2 ?_
      have p1 : (numT (l.getD i z68).f0).size + (numT (l.getD i z68).f1).size ≤ 9223372036854775807 := by rw [numT_size, numT_size]; omega
      have s1 : ∀ x : UInt8, ByteArray.size ⟨#[x]⟩ = 1 := fun _ => rfl
      have p2 : (joinT 45 ((l.take i).map txtC) ++ ⟨#[45]⟩).size + (numT (l.getD i z68).f0 ++ numT (l.getD i z68).f1).size ≤ 9223372036854775807 := by rw [bsize_app, bsize_app, numT_size, numT_size, s1]; omega
      simp only [if_pos p1, if_pos p2]
      rw [joinT_step 45 txtC l i z68 (by omega) hlt] at hn
      exact hn
theorem caText_ev (l : List S68) (hl : l.length ≤ 1048576) (hc : ∀ c ∈ l, isCallB 10 c.f0 c.f1 = true) : Ev (fun k => spec_caText.f k l) (textC l) := by
  unfold spec_caText.f
  exact caText_l0 l hl hc l.length 0 (by omega)
theorem callsText_l0 (l : List S68) (hl : l.length ≤ 1048576) (hc : ∀ c ∈ l, isCallB 10 c.f0 c.f1 = true) : ∀ (d i : Nat), i + d = l.length →
    Ev (fun k => impl_callsText.l0 k ((l.take i).map txtC) l (l.length : Int) (i : Int)) (textC l) := by
  intro d
  induction d with
  | zero =>
    intro i hi
    have hi' : ¬ (i : Int) < (l.length : Int) := by omega
    have hj := join_f 45 (l.map txtC) 2 (fun x hx => by obtain ⟨c, _, rfl⟩ := List.mem_map.1 hx; rw [txtC_size]; exact Nat.le_refl _) (by rw [List.length_map]; omega)
    rw [List.take_of_length_le (by omega)]
    refine Ev.step (fun k => by simp only [impl_callsText.l0, if_neg hi', hj, Option.bind_some] <;> exact rfl) ?_
    exact ev_now _
  | succ d ih =>
    intro i hi
    have hlt : i < l.length := by omega
    have q1 : (i : Int) < (l.length : Int) := by omega
    have q2 : (0 : Int) ≤ (i : Int) := by omega
    have hm := hc (l.getD i z68) (by rw [getD_at _ _ _ hlt]; exact List.getElem_mem hlt)
    have hc1 := isCallB_nums hm
    have ei := w64 (show -9223372036854775808 ≤ (i : Int) + 1 by omega) (by omega)
    have er : rd_T68 l (i : Int) = l.getD i z68 := rfl
    have q3 : ((l.take i).map txtC).length < 8796093022208 := by rw [List.length_map, List.length_take]; omega
    have et := txtC_of _ _ ⟨hc1.1, hc1.2.1⟩ ⟨hc1.2.2.1, hc1.2.2.2⟩
    refine Ev.step (fun k => by simp only [impl_callsText.l0, if_pos q1, if_pos q2, if_pos q3, er, ei, et] <;> exact rfl) ?_
    have hn := ih (i + 1) (by omega)
    rw [take_at l i z68 hlt, List.map_append] at hn
    exact hn
theorem callsText_ev (l : List S68) (hl : l.length ≤ 1048576) (hc : ∀ c ∈ l, isCallB 10 c.f0 c.f1 = true) : Ev (fun k => impl_callsText.f k l) (textC l) := by
  unfold impl_callsText.f
  exact callsText_l0 l hl hc l.length 0 (by omega)

def textR (l : List (List S68)) : ByteArray := joinT 47 (l.map textC)
def Small (l : List (List S68)) : Prop := l.length ≤ 20 ∧ ∀ r ∈ l, r.length ≤ 45 ∧ ∀ c ∈ r, isCallB 10 c.f0 c.f1 = true
theorem textR_size (l : List (List S68)) (h : ∀ r ∈ l, r.length ≤ 45 ∧ ∀ c ∈ r, isCallB 10 c.f0 c.f1 = true) : (textR l).size ≤ l.length * 136 := by
  have := joinT_size 47 135 (l.map textC) (fun x hx => by obtain ⟨c, hc, rfl⟩ := List.mem_map.1 hx; have h1 := textC_size c; have h2 := (h c hc).1; omega)
  rwa [List.length_map] at this
theorem roText_l0 (l : List (List S68)) (hs : Small l) : ∀ (d i : Nat), i + d = l.length →
    Ev (fun k => spec_roText.l0 k (joinT 47 ((l.take i).map textC)) l (l.length : Int) (i : Int)) (textR l) := by
  obtain ⟨hl, hc⟩ := hs
  intro d
  induction d with
  | zero =>
    intro i hi
    have hi' : ¬ (i : Int) < (l.length : Int) := by omega
    refine Ev.step (fun k => by simp only [spec_roText.l0, if_neg hi'] <;> exact rfl) ?_
    rw [List.take_of_length_le (by omega)]
    exact ev_now _
  | succ d ih =>
    intro i hi
    have hlt : i < l.length := by omega
    have q1 : (i : Int) < (l.length : Int) := by omega
    have q2 : (0 : Int) ≤ (i : Int) := by omega
    have hm := hc (l.getD i []) (by rw [getD_at _ _ _ hlt]; exact List.getElem_mem hlt)
    have hsz : (joinT 47 ((l.take i).map textC)).size ≤ 3000 := by
      have := textR_size (l.take i) (fun r hr => hc r (List.mem_of_mem_take hr))
      rw [List.length_take] at this
      show (textR (l.take i)).size ≤ _
      omega
    have hn := ih (i + 1) (by omega)
    have ei := w64 (show -9223372036854775808 ≤ (i : Int) + 1 by omega) (by omega)
    have er : rd_L2 l (i : Int) = l.getD i [] := rfl
    have e1 := caText_ev _ (by omega) hm.2
    have s1 : ∀ x : UInt8, ByteArray.size ⟨#[x]⟩ = 1 := fun _ => rfl
    have hts := textC_size (l.getD i [])
    by_cases h0 : i = 0
    · subst h0
      have q3 : ¬ ((0 : Nat) : Int) > 0 := by omega
      refine Ev.step (fun k => by simp only [spec_roText.l0, if_pos q1, if_pos q2, if_neg q3, er, ei] <;> exact rfl) ?_
      refine Ev.bind e1 ?_
      have p1 : (joinT 47 ((l.take 0).map textC)).size + (textC (l.getD 0 [])).size ≤ 9223372036854775807 := by omega
      simp only [if_pos p1]
      rw [joinT_step0 47 textC l [] hlt] at hn
      have e3 : joinT 47 ((l.take 0).map textC) ++ textC (l.getD 0 []) = textC (l.getD 0 []) := by
        apply bext; rw [bapp]; rfl
      rw [e3]
      exact hn
    · have q3 : (i : Int) > 0 := by omega
      have q4 : (joinT 47 ((l.take i).map textC)).size + 1 ≤ 9223372036854775807 := by omega
      refine Ev.step (fun k => by simp only [spec_roText.l0, if_pos q1, if_pos q2, if_pos q3, if_pos q4, er, ei] <;> exact rfl) ?_
      refine Ev.bind e1 ?_
      have p1 : (joinT 47 ((l.take i).map textC) ++ ⟨#[47]⟩).size + (textC (l.getD i [])).size ≤ 9223372036854775807 := by rw [bsize_app, s1]; omega
      simp only [if_pos p1]
      rw [joinT_step 47 textC l i [] (by omega) hlt] at hn
      exact hn
theorem roText_ev (l : List (List S68)) (hs : Small l) : Ev (fun k => spec_roText.f k l) (if l.length = 0 then ⟨#[46]⟩ else textR l) := by
  unfold spec_roText.f
  by_cases h : l.length = 0
  · have h' : (l.length : Int) = 0 := by omega
    simp only [if_pos h, if_pos h']
    exact ev_now _
  · have h' : ¬ (l.length : Int) = 0 := by omega
    simp only [if_neg h, if_neg h']
    exact roText_l0 l hs l.length 0 (by omega)
theorem roundsText_l0 (l : List (List S68)) (hs : Small l) : ∀ (d i : Nat), i + d = l.length →
    Ev (fun k => impl_roundsText.l0 k ((l.take i).map textC) l (l.length : Int) (i : Int)) (textR l) := by
  obtain ⟨hl, hc⟩ := hs
  intro d
  induction d with
  | zero =>
    intro i hi
    have hi' : ¬ (i : Int) < (l.length : Int) := by omega
    have hj := join_f 47 (l.map textC) 135 (fun x hx => by obtain ⟨c, hm, rfl⟩ := List.mem_map.1 hx; have h1 := textC_size c; have h2 := (hc c hm).1; omega) (by rw [List.length_map]; omega)
    rw [List.take_of_length_le (by omega)]
    refine Ev.step (fun k => by simp only [impl_roundsText.l0, if_neg hi', hj, Option.bind_some] <;> exact rfl) ?_
    exact ev_now _
  | succ d ih =>
    intro i hi
    have hlt : i < l.length := by omega
    have q1 : (i : Int) < (l.length : Int) := by omega
    have q2 : (0 : Int) ≤ (i : Int) := by omega
    have hm := hc (l.getD i []) (by rw [getD_at _ _ _ hlt]; exact List.getElem_mem hlt)
    have ei := w64 (show -9223372036854775808 ≤ (i : Int) + 1 by omega) (by omega)
    have er : rd_L2 l (i : Int) = l.getD i [] := rfl
    have q3 : ((l.take i).map textC).length < 8796093022208 := by rw [List.length_map, List.length_take]; omega
    refine Ev.step (fun k => by simp only [impl_roundsText.l0, if_pos q1, if_pos q2, if_pos q3, er, ei] <;> exact rfl) ?_
    refine Ev.bind (callsText_ev _ (by omega) hm.2) ?_
    have hn := ih (i + 1) (by omega)
    rw [take_at l i [] hlt, List.map_append] at hn
    exact hn
theorem roundsText_ev (l : List (List S68)) (hs : Small l) : Ev (fun k => impl_roundsText.f k l) (if l.length = 0 then ⟨#[46]⟩ else textR l) := by
  unfold impl_roundsText.f
  by_cases h : l.length = 0
  · have h' : (l.length : Int) = 0 := by omega
    simp only [if_pos h, if_pos h']
    exact ev_now _
  · have h' : ¬ (l.length : Int) = 0 := by omega
    simp only [if_neg h, if_neg h']
    exact roundsText_l0 l hs l.length 0 (by omega)
def resP (l : List (List S68)) : ByteArray × Bool := if areRoundsB 10 l = true then (if l.length = 0 then ⟨#[46]⟩ else textR l, true) else (⟨#[]⟩, false)
theorem small_of {l : List (List S68)} (h : areRoundsB 10 l = true) : Small l := ⟨(areRoundsB_true h).2.2.1, round_all h⟩
theorem spec_ev (l : List (List S68)) (h : RowsC l) : Ev (fun k => spec_RoundsText.f k l) (resP l) := by
  unfold spec_RoundsText.f resP
  refine Ev.bind (roGood_ev 10 l h) ?_
  cases hg : areRoundsB 10 l with
  | false => simpa using ev_now _
  | true =>
    simp only [if_true]
    exact Ev.bind (roText_ev l (small_of hg)) (ev_now _)
theorem impl_ev (l : List (List S68)) (h : RowsC l) : Ev (fun k => impl_RoundsText.f k l) (resP l) := by
  unfold impl_RoundsText.f resP
  refine Ev.bind (areRounds_ev 10 l h) ?_
  cases hg : areRoundsB 10 l with
  | false => simpa using ev_now _
  | true =>
    simp only [if_true]
    exact Ev.bind (roundsText_ev l (small_of hg)) (ev_now _)
theorem FnExactRoundsText : ∀ (l0 : (List (List S88))), l0.length ≤ 9223372036854775807 → (∀ r ∈ l0, r.length ≤ 9223372036854775807) → ∃ k, laws_FnExactRoundsText.f k l0 = some true := by
  intro l1 hl1 hr1
  apply Ev.rounds
  unfold laws_FnExactRoundsText.f
  refine Ev.bind (szCallSS_ev l1 hl1 hr1) ?_
  by_cases h1 : szR l1 < 0
  · simp only [if_pos h1]
    exact ev_now _
  · simp only [if_neg h1]
    obtain ⟨s1, s2⟩ := szR_rows h1
    have g1 := toRows_rows s1
    refine Ev.bind (toCallSS_ev l1 s1) ?_
    refine Ev.bind (spec_ev _ g1) ?_
    refine Ev.bind (toCallSS_ev l1 s1) ?_
    refine Ev.bind (impl_ev _ g1) ?_
    simp only [if_true, bne_self_eq_false]
    refine Ev.step (fun k => by simp only [laws_FnExactRoundsText.j0, Bool.false_eq_true, if_false] <;> exact rfl) ?_
    refine Ev.bind (toCallSS_ev l1 s1) ?_
    refine Ev.bind (eqCallSS_ev _ g1) ?_
    simp only [if_true]
    exact ev_now _

end Go.Proofs.Ytnlmalicpckfbaa.Pure
