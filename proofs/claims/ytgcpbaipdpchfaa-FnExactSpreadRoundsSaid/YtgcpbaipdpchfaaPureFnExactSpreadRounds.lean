/- The pure side of FnExactSpreadRounds: program and reference agree at every argument. No condition beside what an argument is. -/
import Derived.Test.YtgcpbaipdpchfaaPFnExactSpreadRoundsx18
import Derived.Test.YtgcpbaipdpchfaaPBase
import Derived.Test.YtgcpbaipdpchfaaHBits
namespace Go.Proofs.Ytgcpbaipdpchfaa.Pure
open Go.RowKit Go.Proofs.Ytgcpbaipdpchfaa.PFnExactSpreadRounds Go.Proofs.YtgcpbaipdpchfaaW.PrintWords Go.Proofs.YtgcpbaipdpchfaaW.PrintLast Go.Proofs.YtgcpbaipdpchfaaW.PrintMore Go.Proofs.Ytgcpbaipdpchfaa.PB
set_option linter.unusedSimpArgs false
set_option linter.unusedVariables false
/-! calls: read, compared, marked -/
def toCalls (l : List S63) : List S54 := l.map fun c => ⟨c.f0, c.f1⟩
theorem toCalls_length (l : List S63) : (toCalls l).length = l.length := by simp [toCalls]

theorem szCallS_small (l : List S63) (h : l.length ≤ 1048576) : laws_szCallS.f l 1048576 = some (1048576 - (l.length : Int)) := by
  unfold laws_szCallS.f
  rw [w64 (by omega) (by omega), if_neg (by omega)]
theorem szCallS_great (l : List S63) (h : ¬ l.length ≤ 1048576) (h2 : l.length ≤ 9223372036854775807) : laws_szCallS.f l 1048576 = some (-1) := by
  unfold laws_szCallS.f
  rw [w64 (by omega) (by omega), if_pos (by omega)]

theorem toCallS_l0 (l : List S63) (h : l.length ≤ 1048576) : ∀ (d : Nat) (i : Int) (acc : List S54), 0 ≤ i → i + d = l.length → acc.length = l.length →
    (∀ j : Nat, (j : Int) < i → acc.getD j z54 = (toCalls l).getD j z54) → Ev (fun k => laws_toCallS.l0 k l acc i) (toCalls l) := by
  intro d
  induction d with
  | zero =>
    intro i acc h0 hi hl hacc
    refine ev_step (f := fun _ => some acc) (fun k => ?_) ?_
    · simp only [laws_toCallS.l0]; rw [if_neg (by omega)]
    · have : acc = toCalls l := ext_getD z54 (by rw [hl, toCalls_length]) (fun j hj => hacc j (by omega))
      rw [this]; exact ev_now _
  | succ d ih =>
    intro i acc h0 hi hl hacc
    refine ev_step (f := fun k => laws_toCallS.l0 k l (acc.set i.toNat ⟨(l.getD i.toNat z63).f0, (l.getD i.toNat z63).f1⟩) (i + 1)) (fun k => ?_) ?_
    · simp only [laws_toCallS.l0, laws_toCall.f, rd_T63, Option.bind_some]
      rw [if_pos (by omega), if_pos h0, if_pos (by omega), w64 (by omega) (by omega)]
    · refine ih (i + 1) _ (by omega) (by omega) (by simpa using hl) (fun j hj => ?_)
      rw [getD_set _ _ _ _ _ (by omega)]
      split
      · rename_i e
        subst e
        rw [toCalls, getD_map (fun c : S63 => (⟨c.f0, c.f1⟩ : S54)) l i.toNat z63 z54 (by omega)]
      · exact hacc j (by omega)
theorem toCallS_ev (l : List S63) (h : l.length ≤ 1048576) : Ev (fun k => laws_toCallS.f k l) (toCalls l) := by
  unfold laws_toCallS.f
  have h1 : (0 : Int) ≤ (l.length : Int) := by omega
  have h2 : ((l.length : Int)).toNat ≤ 17592186044416 := by omega
  simp only [if_pos h1, if_pos h2]
  exact toCallS_l0 l h l.length 0 _ (by omega) (by omega) (by simp) (fun j hj => by omega)

theorem eqCallS_l0 (a : List S54) (h : a.length ≤ 1048576) : ∀ (d : Nat) (i : Int), 0 ≤ i → i + d = a.length → Ev (fun k => laws_eqCallS.l0 k a a i) true := by
  intro d
  induction d with
  | zero =>
    intro i h0 hi
    refine ev_step (f := fun _ => some true) (fun k => ?_) (ev_now _)
    simp only [laws_eqCallS.l0]; rw [if_neg (by omega)]
  | succ d ih =>
    intro i h0 hi
    refine ev_step (f := fun k => laws_eqCallS.l0 k a a (i + 1)) (fun k => ?_) (ih _ (by omega) (by omega))
    simp only [laws_eqCallS.l0, laws_eqCall.f, if_true, Option.bind_some]
    rw [if_pos (by omega), if_pos h0, if_pos (by omega), w64 (by omega) (by omega)]
theorem eqCallS_ev (a : List S54) (h : a.length ≤ 1048576) : Ev (fun k => laws_eqCallS.f k a a) true := by
  unfold laws_eqCallS.f
  simp only [if_true]
  exact eqCallS_l0 a h a.length 0 (by omega) (by omega)

/-! calls: marked -/
def markedC (n : Nat) (m : Int) : List S54 := (List.range n).map fun i : Nat => ⟨m + 2 * (i : Int), m + 2 * (i : Int) + 1⟩
/-! calls: held -/
def isCallB (n a b : Int) : Bool := decide (0 ≤ a) && (decide (a < b) && decide (b < n))
theorem isCall_f (n a b : Int) : impl_isCall.f n a b = some (isCallB n a b) := by
  unfold impl_isCall.f isCallB
  by_cases h1 : 0 ≤ a <;> by_cases h2 : a < b <;> by_cases h3 : b < n <;> simp [h1, h2, h3]

/-! spec.caGood -/
theorem caFriends_f (n : Int) : spec_caFriends.f n = some (decide (1 ≤ n) && decide (n ≤ 10)) := by
  unfold spec_caFriends.f spec_l1In.f
  by_cases h1 : 1 ≤ n <;> by_cases h2 : n ≤ 10 <;> simp [h1, h2]
theorem caCall_f (n a b : Int) (h1 : 1 ≤ n) (h2 : n ≤ 10) : spec_caCall.f n a b = some (isCallB n a b) := by
  unfold spec_caCall.f spec_l1In.f isCallB
  rw [w64 (by omega) (by omega)]
  by_cases g1 : 0 ≤ a
  · by_cases g2 : a ≤ n - 1
    · rw [w64 (by omega) (by omega)]
      by_cases g3 : a + 1 ≤ b <;> by_cases g4 : b ≤ n - 1
      · have e1 : a < b := by omega
        have e2 : b < n := by omega
        simp [g1, g2, g3, g4, e1, e2]
      · have e1 : a < b := by omega
        have e2 : ¬ b < n := by omega
        simp [g1, g2, g3, g4, e1, e2]
      · have e1 : ¬ a < b := by omega
        simp [g1, g2, g3, e1]
      · have e1 : ¬ a < b := by omega
        simp [g1, g2, g3, e1]
    · by_cases g3 : a < b
      · have e2 : ¬ b < n := by omega
        simp [g1, g2, e2]
      · simp [g1, g2, g3]
  · simp [g1]
theorem caGood_l0 (n : Int) (l : List S54) (h : l.length ≤ 1048576) (h1 : 1 ≤ n) (h2 : n ≤ 10) : ∀ (d : Nat) (i : Int), 0 ≤ i → i + d = l.length →
    Ev (fun k => spec_caGood.l0 k n l (l.length : Int) i) ((l.drop i.toNat).all fun c => isCallB n c.f0 c.f1) := by
  intro d
  induction d with
  | zero =>
    intro i h0 hi
    refine ev_step (f := fun _ => some true) (fun k => ?_) ?_
    · simp only [spec_caGood.l0]; rw [if_neg (by omega)]
    · rw [List.drop_eq_nil_of_le (by omega)]; exact ev_now _
  | succ d ih =>
    intro i h0 hi
    have hd := drop_at l i.toNat z54 (by omega)
    cases hq : isCallB n (l.getD i.toNat z54).f0 (l.getD i.toNat z54).f1 with
    | true =>
      refine ev_step (f := fun k => spec_caGood.l0 k n l (l.length : Int) (i + 1)) (fun k => ?_) ?_
      · simp only [spec_caGood.l0, rd_T54, caCall_f n _ _ h1 h2, Option.bind_some, hq, if_true]
        rw [if_pos (by omega), if_pos h0, if_pos (by omega), w64 (by omega) (by omega)]
      · have := ih (i + 1) (by omega) (by omega)
        rw [hd, List.all_cons, hq, Bool.true_and]
        rwa [show (i + 1).toNat = i.toNat + 1 by omega] at this
    | false =>
      refine ev_step (f := fun _ => some false) (fun k => ?_) ?_
      · simp only [spec_caGood.l0, rd_T54, caCall_f n _ _ h1 h2, Option.bind_some, hq]
        rw [if_pos (by omega), if_pos h0, if_pos (by omega), if_neg (by simp)]
      · rw [hd, List.all_cons, hq, Bool.false_and]; exact ev_now _
/-! networks: strictly increasing lists of calls -/
theorem isCallB_bd {n a b : Int} (h : isCallB n a b = true) : 0 ≤ a ∧ a < b ∧ b < n := by simpa [isCallB] using h
def lessB (c d : S54) : Bool := decide (c.f0 < d.f0) || (decide (c.f0 = d.f0) && decide (c.f1 < d.f1))
def pairsB (n : Int) : Option S54 → List S54 → Bool
  | _, [] => true
  | none, c :: cs => isCallB n c.f0 c.f1 && pairsB n (some c) cs
  | some p, c :: cs => isCallB n c.f0 c.f1 && (lessB p c && pairsB n (some c) cs)
def friendsB (n : Int) : Bool := decide (1 ≤ n) && decide (n ≤ 10)
def arePairsB (n : Int) (l : List S54) : Bool := friendsB n && pairsB n none l
def codeP (c : S54) : Nat := 10 * c.f0.toNat + c.f1.toNat
def validN (n : Nat) (x : Nat) : Bool := decide (x / 10 < x % 10) && decide (x % 10 < n)
theorem valid_count : ∀ n : Fin 11, (List.range 100).countP (validN n.val) = n.val * (n.val - 1) / 2 := by decide +kernel
theorem valid_code {n : Int} (hn : n ≤ 10) {c : S54} (h : isCallB n c.f0 c.f1 = true) : validN n.toNat (codeP c) = true ∧ codeP c < 100 := by
  obtain ⟨h1, h2, h3⟩ := isCallB_bd h
  have e1 : codeP c / 10 = c.f0.toNat := by unfold codeP; omega
  have e2 : codeP c % 10 = c.f1.toNat := by unfold codeP; omega
  refine ⟨?_, by unfold codeP; omega⟩
  simp only [validN, e1, e2, Bool.and_eq_true, decide_eq_true_eq]
  omega
theorem less_code {n : Int} (hn : n ≤ 10) {c d : S54} (hc : isCallB n c.f0 c.f1 = true) (hd : isCallB n d.f0 d.f1 = true) (h : lessB c d = true) : codeP c < codeP d := by
  obtain ⟨h1, h2, h3⟩ := isCallB_bd hc
  obtain ⟨g1, g2, g3⟩ := isCallB_bd hd
  simp [lessB] at h
  unfold codeP
  omega
theorem range_count (p : Nat → Bool) : ∀ (m s x : Nat), s ≤ x → x < s + m → p x = true → 1 + (List.range' (x + 1) (s + m - (x + 1))).countP p ≤ (List.range' s m).countP p
  | 0, s, x, h1, h2, _ => by omega
  | m + 1, s, x, h1, h2, hp => by
    rw [List.range'_succ, List.countP_cons]
    rcases Nat.lt_or_ge s x with h | h
    · have ih := range_count p m (s + 1) x h (by omega) hp
      rw [show s + (m + 1) - (x + 1) = s + 1 + m - (x + 1) by omega]
      omega
    · have e : x = s := by omega
      subst e
      rw [if_pos hp, show x + (m + 1) - (x + 1) = m by omega]
      omega
theorem pairs_le {n : Int} (hn : n ≤ 10) : ∀ (l : List S54) (p : S54) (_ : isCallB n p.f0 p.f1 = true), pairsB n (some p) l = true → l.length ≤ (List.range' (codeP p + 1) (100 - (codeP p + 1))).countP (validN n.toNat)
  | [], p, _, _ => Nat.zero_le _
  | c :: cs, p, hp, h => by
    simp only [pairsB, Bool.and_eq_true] at h
    obtain ⟨h1, h2, h3⟩ := h
    have ih := pairs_le hn cs c h1 h3
    have v := valid_code hn h1
    have vp := valid_code hn hp
    have lt := less_code hn hp h1 h2
    have := range_count (validN n.toNat) (100 - (codeP p + 1)) (codeP p + 1) (codeP c) lt (by omega) v.1
    rw [show codeP p + 1 + (100 - (codeP p + 1)) - (codeP c + 1) = 100 - (codeP c + 1) by omega] at this
    rw [List.length_cons]
    omega
theorem pairs_length {n : Int} {l : List S54} (h : arePairsB n l = true) : l.length ≤ n.toNat * (n.toNat - 1) / 2 := by
  simp only [arePairsB, friendsB, Bool.and_eq_true, decide_eq_true_eq] at h
  obtain ⟨⟨h1, h2⟩, h3⟩ := h
  have hv := valid_count ⟨n.toNat, by omega⟩
  simp only at hv
  rw [← hv, List.range_eq_range']
  cases l with
  | nil => exact Nat.zero_le _
  | cons c cs =>
    simp only [pairsB, Bool.and_eq_true] at h3
    have v := valid_code h2 h3.1
    have := range_count (validN n.toNat) 100 0 (codeP c) (Nat.zero_le _) (by omega) v.1
    have g := pairs_le h2 cs c h3.1 h3.2
    rw [show 0 + 100 - (codeP c + 1) = 100 - (codeP c + 1) by omega] at this
    rw [List.length_cons]
    omega
theorem pairs_45 {n : Int} {l : List S54} (h : arePairsB n l = true) : 1 ≤ n ∧ n ≤ 10 ∧ l.length ≤ 45 := by
  have hl := pairs_length h
  simp only [arePairsB, friendsB, Bool.and_eq_true, decide_eq_true_eq] at h
  obtain ⟨⟨h1, h2⟩, h3⟩ := h
  have : n.toNat * (n.toNat - 1) ≤ 10 * 9 := Nat.mul_le_mul (by omega) (by omega)
  exact ⟨h1, h2, by omega⟩
theorem pairs_all {n : Int} : ∀ (l : List S54) (o : Option S54), pairsB n o l = true → ∀ c ∈ l, isCallB n c.f0 c.f1 = true
  | [], _, _ => by simp
  | c :: cs, o, h => by
    have h' : isCallB n c.f0 c.f1 = true ∧ pairsB n (some c) cs = true := by
      cases o with
      | none => simpa [pairsB] using h
      | some p => simp only [pairsB, Bool.and_eq_true] at h; exact ⟨h.1, h.2.2⟩
    intro d hd
    rcases List.mem_cons.1 hd with rfl | hd
    · exact h'.1
    · exact pairs_all cs _ h'.2 d hd
theorem arePairs_all {n : Int} {l : List S54} (h : arePairsB n l = true) : ∀ c ∈ l, isCallB n c.f0 c.f1 = true := by
  simp only [arePairsB, Bool.and_eq_true] at h
  exact pairs_all l none h.2
def prevP (l : List S54) (i : Nat) : Option S54 := if i = 0 then none else some (l.getD (i - 1) z54)
theorem pairs_step (n : Int) (l : List S54) (i : Nat) (h : i < l.length) : pairsB n (prevP l i) (l.drop i) = (isCallB n (l.getD i z54).f0 (l.getD i z54).f1 && ((i = 0 || lessB (l.getD (i - 1) z54) (l.getD i z54)) && pairsB n (prevP l (i + 1)) (l.drop (i + 1)))) := by
  rw [drop_at l i z54 h]
  have e : prevP l (i + 1) = some (l.getD i z54) := by simp [prevP]
  rw [e]
  unfold prevP
  by_cases hi : i = 0
  · rw [if_pos hi]; simp [pairsB, hi]
  · rw [if_neg hi]; simp [pairsB, hi]
theorem areFriendsN_f (n : Int) : impl_areFriends.f n = some (friendsB n) := by
  unfold impl_areFriends.f impl_within.f friendsB
  by_cases h1 : 1 ≤ n <;> by_cases h2 : n ≤ 10 <;> simp [h1, h2]
theorem most_pairs : ∀ n : Fin 11, wrap64 (Int.tdiv (wrap64 ((n.val : Int) * (wrap64 ((n.val : Int) - 1)))) 2) = ((n.val * (n.val - 1) / 2 : Nat) : Int) := by decide +kernel
theorem compare_f (a b : Int) : cmp_Compare_int.f a b = some (if a < b then -1 else if a > b then 1 else 0) := by
  unfold cmp_Compare_int.f cmp_isNaN_int.f
  simp only [Option.bind_some, bne_self_eq_false, Bool.false_eq_true, if_false]
  split
  · rfl
  · split <;> rfl
def cmpP (c d : S54) : Int := if c.f0 < d.f0 then -1 else if c.f0 > d.f0 then 1 else if c.f1 < d.f1 then -1 else if c.f1 > d.f1 then 1 else 0
theorem or2_f (x y : Int) (k : Nat) : cmp_Or_int.f (k + 3) [x, y] = some (if x = 0 then y else x) := by
  unfold cmp_Or_int.f
  by_cases hx : x = 0
  · by_cases hy : y = 0
    · simp [cmp_Or_int.l0, rd, hx, hy, wrap64]
    · simp [cmp_Or_int.l0, rd, hx, hy, wrap64]
  · simp [cmp_Or_int.l0, rd, hx, wrap64]
theorem compareCalls_ev (c d : S54) : Ev (fun k => impl_compareCalls.f k c.f0 c.f1 d.f0 d.f1) (cmpP c d) := by
  refine ⟨3, fun k hk => ?_⟩
  obtain ⟨j, rfl⟩ : ∃ j, k = j + 3 := ⟨k - 3, by omega⟩
  unfold impl_compareCalls.f
  simp only [compare_f, Option.bind_some, or2_f]
  congr 1
  unfold cmpP
  by_cases h1 : c.f0 < d.f0
  · simp [h1]
  · by_cases h2 : c.f0 > d.f0
    · simp [h1, h2]
    · simp [h1, h2]
theorem cmpP_less (c d : S54) : (cmpP c d ≥ 0) = (lessB c d = false) := by
  unfold cmpP lessB
  by_cases h1 : c.f0 < d.f0
  · simp [h1]
  · by_cases h2 : c.f0 > d.f0
    · have h3 : ¬ c.f0 = d.f0 := by omega
      simp [h1, h2, h3]
    · have h3 : c.f0 = d.f0 := by omega
      by_cases h4 : c.f1 < d.f1
      · simp [h3, h4]
      · by_cases h5 : c.f1 > d.f1 <;> simp [h3, h4, h5]
theorem arePairs_l0 (n : Int) (l : List S54) (h : l.length ≤ 1048576) : ∀ (d : Nat) (i : Nat), i + d = l.length →
    Ev (fun k => impl_ArePairs.l0 k n l l (l.length : Int) (i : Int)) (friendsB n && pairsB n (prevP l i) (l.drop i)) := by
  intro d
  induction d with
  | zero =>
    intro i hi
    refine ev_step (f := fun _ => some (friendsB n)) (fun k => ?_) ?_
    · simp only [impl_ArePairs.l0, areFriendsN_f, Option.bind_some]; rw [if_neg (by omega)]
    · rw [List.drop_eq_nil_of_le (by omega)]; simpa [pairsB] using ev_now _
  | succ d ih =>
    intro i hi
    rw [pairs_step n l i (by omega)]
    have e : rd_T54 l (i : Int) = l.getD i z54 := rfl
    cases hq : isCallB n (l.getD i z54).f0 (l.getD i z54).f1 with
    | false =>
      refine ev_step (f := fun _ => some false) (fun k => ?_) (by simpa using ev_now _)
      simp only [impl_ArePairs.l0, e, isCall_f, Option.bind_some, hq]
      rw [if_pos (by omega), if_pos (by omega), if_pos (by omega), if_neg (by simp)]
    | true =>
      rw [Bool.true_and]
      by_cases hi0 : i = 0
      · refine ev_step (f := fun k => impl_ArePairs.l0 k n l l (l.length : Int) ((i + 1 : Nat) : Int)) (fun k => ?_) ?_
        · simp only [impl_ArePairs.l0, e, isCall_f, Option.bind_some, hq, if_true]
          rw [if_pos (by omega), if_pos (by omega), if_pos (by omega), if_neg (by omega), w64 (by omega) (by omega)]
          rfl
        · simpa [hi0] using ih (i + 1) (by omega)
      · have e2 : wrap64 ((i : Int) - 1) = ((i - 1 : Nat) : Int) := by rw [w64 (by omega) (by omega)]; omega
        have e3 : rd_T54 l ((i - 1 : Nat) : Int) = l.getD (i - 1) z54 := rfl
        refine ev_step (f := fun k => (impl_compareCalls.f k (l.getD (i - 1) z54).f0 (l.getD (i - 1) z54).f1 (l.getD i z54).f0 (l.getD i z54).f1).bind fun t => if t ≥ 0 then some false else impl_ArePairs.l0 k n l l (l.length : Int) ((i + 1 : Nat) : Int)) (fun k => ?_) ?_
        · simp only [impl_ArePairs.l0, e, isCall_f, Option.bind_some, hq, if_true, e2, e3]
          rw [if_pos (by omega), if_pos (by omega), if_pos (by omega), if_pos (by omega), if_pos (by omega), if_pos (by omega), w64 (by omega) (by omega)]
          rfl
        · refine Ev.bind (compareCalls_ev _ _) ?_
          simp only [cmpP_less]
          cases hl : lessB (l.getD (i - 1) z54) (l.getD i z54) with
          | true => simpa [hi0] using ih (i + 1) (by omega)
          | false => simpa [hi0] using ev_now _
theorem arePairs_ev (n : Int) (l : List S54) (h : l.length ≤ 1048576) : Ev (fun k => impl_ArePairs.f k n l) (arePairsB n l) := by
  unfold impl_ArePairs.f
  have h0 := arePairs_l0 n l h l.length 0 (by omega)
  simpa [prevP, arePairsB] using h0

/-! news: what friends know, as numbers below 2^n -/
def orI (a b : Int) : Int := ((a.toNat ||| b.toNat : Nat) : Int)
def startP (n : Nat) : List Int := (List.range n).map fun i => ((2 ^ i : Nat) : Int)
def SmallP (n : Nat) (l : List Int) : Prop := l.length = n ∧ ∀ x ∈ l, 0 ≤ x ∧ x < ((2 ^ n : Nat) : Int)
theorem smallP_at {n : Nat} {l : List Int} (h : SmallP n l) (i : Nat) (hi : i < n) : 0 ≤ l.getD i 0 ∧ l.getD i 0 < ((2 ^ n : Nat) : Int) := by
  have hl : i < l.length := by rw [h.1]; exact hi
  rw [getD_at l i 0 hl]
  exact h.2 _ (List.getElem_mem hl)
theorem smallP_1024 {n : Nat} {l : List Int} (h : SmallP n l) (hn : n ≤ 10) (i : Nat) (hi : i < n) : 0 ≤ l.getD i 0 ∧ l.getD i 0 < 1024 := by
  have h1 := smallP_at h i hi
  have h2 : 2 ^ n ≤ 2 ^ 10 := Nat.pow_le_pow_right (by omega) hn
  omega
theorem smallP_start (n : Nat) : SmallP n (startP n) := by
  refine ⟨by simp [startP], fun x hx => ?_⟩
  obtain ⟨i, hi, rfl⟩ := List.mem_map.1 hx
  have : i < n := by simpa using hi
  have h2 : 2 ^ i < 2 ^ n := Nat.pow_lt_pow_right (by omega) this
  have h3 : 0 < 2 ^ i := Nat.two_pow_pos i
  omega
theorem orI_lt {n : Nat} {a b : Int} (ha : 0 ≤ a ∧ a < ((2 ^ n : Nat) : Int)) (hb : 0 ≤ b ∧ b < ((2 ^ n : Nat) : Int)) : 0 ≤ orI a b ∧ orI a b < ((2 ^ n : Nat) : Int) := by
  have h := Nat.or_lt_two_pow (x := a.toNat) (y := b.toNat) (n := n) (by omega) (by omega)
  unfold orI
  omega
theorem smallP_set {n : Nat} {l : List Int} (h : SmallP n l) (i : Nat) (x : Int) (hx : 0 ≤ x ∧ x < ((2 ^ n : Nat) : Int)) : SmallP n (l.set i x) := by
  refine ⟨by rw [List.length_set, h.1], fun y hy => ?_⟩
  rcases List.mem_or_eq_of_mem_set hy with h1 | h1
  · exact h.2 y h1
  · rw [h1]; exact hx
theorem or_i64 {a b : Int} (ha : 0 ≤ a ∧ a < 1024) (hb : 0 ≤ b ∧ b < 1024) : Go.bits .or .i64 a b = orI a b := by
  have h := (bits_nat .i64 10 (by decide) (fun n h0 h1 => by rw [IntKind.wrap_i64]; omega) a.toNat b.toNat (by omega) (by omega)).2
  rw [show ((a.toNat : Nat) : Int) = a by omega, show ((b.toNat : Nat) : Int) = b by omega] at h
  exact h
theorem or_u16 {a b : Int} (ha : 0 ≤ a ∧ a < 1024) (hb : 0 ≤ b ∧ b < 1024) : Go.bits .or .u16 a b = orI a b := by
  have h := (bits_nat .u16 10 (by decide) (fun n h0 h1 => by simp [IntKind.wrap, IntKind.bits, IntKind.signed]; omega) a.toNat b.toNat (by omega) (by omega)).2
  rw [show ((a.toNat : Nat) : Int) = a by omega, show ((b.toNat : Nat) : Int) = b by omega] at h
  exact h
theorem shl_i64_all : ∀ i : Fin 11, shl .i64 1 (i.val : Int) = ((2 ^ i.val : Nat) : Int) := by decide +kernel
theorem shl_u16_all : ∀ i : Fin 11, shl .u16 1 (i.val : Int) = ((2 ^ i.val : Nat) : Int) := by decide +kernel
theorem shl_i64_at (i : Int) (h0 : 0 ≤ i) (h1 : i ≤ 10) : shl .i64 1 i = ((2 ^ i.toNat : Nat) : Int) := by
  have := shl_i64_all ⟨i.toNat, by omega⟩
  simp only [Int.toNat_of_nonneg h0] at this
  exact this
theorem shl_u16_at (i : Int) (h0 : 0 ≤ i) (h1 : i ≤ 10) : shl .u16 1 i = ((2 ^ i.toNat : Nat) : Int) := by
  have := shl_u16_all ⟨i.toNat, by omega⟩
  simp only [Int.toNat_of_nonneg h0] at this
  exact this
theorem startP_take (n i : Nat) (h : i < n) : (startP n).take (i + 1) = (startP n).take i ++ [((2 ^ i : Nat) : Int)] := by
  rw [take_at (startP n) i 0 (by simpa [startP] using h), startP, getD_range_map _ _ _ _ h]
/-! single digits -/
theorem bit_i64_all : ∀ x : Fin 1024, ∀ a : Fin 10, Go.bits .and .i64 (shr .i64 (x.val : Int) (a.val : Int)) 1 = if x.val.testBit a.val then 1 else 0 := by decide +kernel
theorem bit_u16_all : ∀ x : Fin 1024, ∀ a : Fin 10, Go.bits .and .u16 (shr .u16 (x.val : Int) (a.val : Int)) 1 = if x.val.testBit a.val then 1 else 0 := by decide +kernel
def bitB (x a : Int) : Bool := x.toNat.testBit a.toNat
theorem bit_i64 {x a : Int} (hx : 0 ≤ x ∧ x < 1024) (h0 : 0 ≤ a) (h1 : a < 10) : (Go.bits .and .i64 (shr .i64 x a) 1 = 1) = (bitB x a = true) := by
  have h := bit_i64_all ⟨x.toNat, by omega⟩ ⟨a.toNat, by omega⟩
  simp only [Int.toNat_of_nonneg hx.1, Int.toNat_of_nonneg h0] at h
  rw [h, bitB]
  cases x.toNat.testBit a.toNat <;> simp
theorem bit_u16 {x a : Int} (hx : 0 ≤ x ∧ x < 1024) (h0 : 0 ≤ a) (h1 : a < 10) : (Go.bits .and .u16 (shr .u16 x a) 1 = 1) = (bitB x a = true) := by
  have h := bit_u16_all ⟨x.toNat, by omega⟩ ⟨a.toNat, by omega⟩
  simp only [Int.toNat_of_nonneg hx.1, Int.toNat_of_nonneg h0] at h
  rw [h, bitB]
  cases x.toNat.testBit a.toNat <;> simp

theorem isFriend_f (n a : Int) (h1 : 1 ≤ n) (h2 : n ≤ 10) : impl_isFriend.f n a = some (decide (0 ≤ a ∧ a < n)) := by
  unfold impl_isFriend.f impl_within.f
  rw [w64 (by omega) (by omega)]
  by_cases g1 : 0 ≤ a <;> by_cases g2 : a < n
  · have : a ≤ n - 1 := by omega
    simp [g1, g2, this]
  · have : ¬ a ≤ n - 1 := by omega
    simp [g1, g2, this]
  · simp [g1]
  · simp [g1]

theorem l1In_friend (n a : Int) (h1 : 1 ≤ n) (h2 : n ≤ 10) : spec_l1In.f a 0 (wrap64 (n - 1)) = some (decide (0 ≤ a ∧ a < n)) := by
  unfold spec_l1In.f
  rw [w64 (by omega) (by omega)]
  by_cases g1 : 0 ≤ a <;> by_cases g2 : a < n
  · have : a ≤ n - 1 := by omega
    simp [g1, g2, this]
  · have : ¬ a ≤ n - 1 := by omega
    simp [g1, g2, this]
  · simp [g1]
  · simp [g1]

/-! words below 1024, as natural numbers -/
theorem oi {a b : Nat} (ha : a < 1024) (hb : b < 1024) : Go.bits .or .i64 (a : Int) (b : Int) = ((a ||| b : Nat) : Int) := (bits_nat .i64 10 (by decide) (fun n h0 h1 => by rw [IntKind.wrap_i64]; omega) a b (by omega) (by omega)).2
theorem ou {a b : Nat} (ha : a < 1024) (hb : b < 1024) : Go.bits .or .u16 (a : Int) (b : Int) = ((a ||| b : Nat) : Int) := (bits_nat .u16 10 (by decide) (fun n h0 h1 => by simp [IntKind.wrap, IntKind.bits, IntKind.signed]; omega) a b (by omega) (by omega)).2
theorem au {a b : Nat} (ha : a < 1024) (hb : b < 1024) : Go.bits .and .u16 (a : Int) (b : Int) = ((a &&& b : Nat) : Int) := (bits_nat .u16 10 (by decide) (fun n h0 h1 => by simp [IntKind.wrap, IntKind.bits, IntKind.signed]; omega) a b (by omega) (by omega)).1
theorem ti {x : Nat} {a : Int} (hx : x < 1024) (h0 : 0 ≤ a) (h1 : a < 10) : Go.bits .and .i64 (shr .i64 (x : Int) a) 1 = if x.testBit a.toNat then 1 else 0 := by
  have h := bit_i64_all ⟨x, hx⟩ ⟨a.toNat, by omega⟩
  simp only [Int.toNat_of_nonneg h0] at h
  exact h
theorem tu {x : Nat} {a : Int} (hx : x < 1024) (h0 : 0 ≤ a) (h1 : a < 10) : Go.bits .and .u16 (shr .u16 (x : Int) a) 1 = if x.testBit a.toNat then 1 else 0 := by
  have h := bit_u16_all ⟨x, hx⟩ ⟨a.toNat, by omega⟩
  simp only [Int.toNat_of_nonneg h0] at h
  exact h
/-! calls as bits -/
def okC (n : Nat) (c : S54) : Prop := 0 ≤ c.f0 ∧ c.f0 < c.f1 ∧ c.f1 < (n : Int)
def bA (c : S54) : Nat := c.f0.toNat
def bB (c : S54) : Nat := c.f1.toNat
def own (c : S54) : Nat := 2 ^ bA c ||| 2 ^ bB c
def freeN (u : Nat) (c : S54) : Bool := !u.testBit (bA c) && !u.testBit (bB c)
def keepN (s : Nat) (c : S54) : Bool := s.testBit (bA c) != s.testBit (bB c)
def go : List S54 → Nat → List (List S54)
  | [], _ => []
  | c :: cs, u => (if freeN u c = true then [c] :: (go cs (u ||| own c)).map (c :: ·) else []) ++ go cs u
def addN (c : S54) (x : Nat) : Nat := (x ||| 2 ^ bA c) ||| 2 ^ bB c
def endN (s : Nat) (r : List S54) : Nat := r.foldr addN s
def endI (s : Nat) (r : List S54) : Int := ((endN s r : Nat) : Int)
theorem pw {n : Nat} (hn : n ≤ 8) : 2 ^ n ≤ 256 := Nat.pow_le_pow_right (n := 2) (by omega) hn
theorem bAB {n : Nat} {c : S54} (h : okC n c) : bA c < bB c ∧ bB c < n := by
  obtain ⟨h1, h2, h3⟩ := h
  unfold bA bB
  omega
theorem pA {n : Nat} {c : S54} (h : okC n c) : 2 ^ bA c < 2 ^ n := Nat.pow_lt_pow_right (by omega) (by have := bAB h; omega)
theorem pB {n : Nat} {c : S54} (h : okC n c) : 2 ^ bB c < 2 ^ n := Nat.pow_lt_pow_right (by omega) (bAB h).2
theorem own_lt {n : Nat} {c : S54} (h : okC n c) : own c < 2 ^ n := Nat.or_lt_two_pow (pA h) (pB h)
theorem addN_lt {n x : Nat} {c : S54} (h : okC n c) (hx : x < 2 ^ n) : addN c x < 2 ^ n := Nat.or_lt_two_pow (Nat.or_lt_two_pow hx (pA h)) (pB h)
theorem addN_own (c : S54) (x : Nat) : addN c x = x ||| own c := by unfold addN own; rw [Nat.or_assoc]
def fr (x : Nat) : Nat := (List.range 8).countP fun i => !x.testBit i
theorem free_all : ∀ x : Fin 256, ∀ a : Fin 8, ∀ b : Fin 8, decide ((x.val &&& (2 ^ a.val ||| 2 ^ b.val)) = 0) = (!x.val.testBit a.val && !x.val.testBit b.val) := by decide +kernel
theorem fr_all : ∀ x : Fin 256, ∀ a : Fin 8, ∀ b : Fin 8, a.val < b.val → (!x.val.testBit a.val && !x.val.testBit b.val) = true → fr (x.val ||| (2 ^ a.val ||| 2 ^ b.val)) + 2 = fr x.val := by decide +kernel
theorem free_eq {n u : Nat} {c : S54} (hn : n ≤ 8) (h : okC n c) (hu : u < 2 ^ n) : (u &&& own c = 0) = (freeN u c = true) := by
  have hb := bAB h
  have hp := pw hn
  have hf := free_all ⟨u, by omega⟩ ⟨bA c, by omega⟩ ⟨bB c, by omega⟩
  simp only at hf
  rw [freeN, ← hf, own]
  simp
theorem fr_own {n u : Nat} {c : S54} (hn : n ≤ 8) (h : okC n c) (hu : u < 2 ^ n) (hf : freeN u c = true) : fr (u ||| own c) + 2 = fr u := by
  have hb := bAB h
  have hp := pw hn
  exact fr_all ⟨u, by omega⟩ ⟨bA c, by omega⟩ ⟨bB c, by omega⟩ hb.1 hf
theorem go_len {n : Nat} (hn : n ≤ 8) : ∀ (cs : List S54) (u r : Nat), u < 2 ^ n → (∀ c ∈ cs, okC n c) → fr u ≤ 2 * r + 1 → (go cs u).length + 1 ≤ (cs.length + 1) ^ r
  | [], u, r, _, _, _ => by simp [go]
  | c :: cs, u, r, hu, hc, hr => by
    have hc0 := hc c (List.mem_cons_self)
    have hcs : ∀ d ∈ cs, okC n d := fun d hd => hc d (List.mem_cons_of_mem _ hd)
    have h1 := go_len hn cs u r hu hcs hr
    have hm : (cs.length + 1) ^ r ≤ ((c :: cs).length + 1) ^ r := Nat.pow_le_pow_left (by simp) r
    rw [go]
    by_cases hf : freeN u c = true
    · rw [if_pos hf]
      have hfr := fr_own hn hc0 hu hf
      obtain ⟨r', rfl⟩ : ∃ r', r = r' + 1 := ⟨r - 1, by omega⟩
      have h2 := go_len hn cs (u ||| own c) r' (Nat.or_lt_two_pow hu (own_lt hc0)) hcs (by omega)
      have e : (cs.length + 1) ^ (r' + 1) = (cs.length + 1) ^ r' * (cs.length + 1) := Nat.pow_succ _ _
      have e2 : ((c :: cs).length + 1) ^ (r' + 1) = ((c :: cs).length + 1) ^ r' * (cs.length + 1 + 1) := Nat.pow_succ _ _
      have hm' : (cs.length + 1) ^ r' ≤ ((c :: cs).length + 1) ^ r' := Nat.pow_le_pow_left (by simp) r'
      have hm2 := Nat.mul_le_mul_right (cs.length + 1 + 1) hm'
      rw [Nat.mul_succ] at hm2
      rw [List.length_append, List.length_cons, List.length_map, e2]
      omega
    · rw [if_neg hf, List.nil_append]
      omega
theorem go_mem : ∀ (cs : List S54) (u : Nat) (r : List S54), r ∈ go cs u → r.length ≤ cs.length ∧ (∀ c ∈ r, c ∈ cs) ∧ ∃ c r', r = c :: r'
  | [], _, _, h => by simp [go] at h
  | c :: cs, u, r, h => by
    rw [go, List.mem_append] at h
    rcases h with h | h
    · by_cases hf : freeN u c = true
      · rw [if_pos hf, List.mem_cons, List.mem_map] at h
        rcases h with rfl | ⟨r', hr', rfl⟩
        · exact ⟨by simp, by simp, c, [], rfl⟩
        · obtain ⟨h1, h2, _⟩ := go_mem cs _ r' hr'
          refine ⟨by simpa using h1, fun d hd => ?_, c, r', rfl⟩
          rcases List.mem_cons.1 hd with rfl | hd
          · exact List.mem_cons_self
          · exact List.mem_cons_of_mem _ (h2 d hd)
      · rw [if_neg hf] at h
        cases h
    · obtain ⟨h1, h2, h3⟩ := go_mem cs _ r h
      exact ⟨by rw [List.length_cons]; omega, fun d hd => List.mem_cons_of_mem _ (h2 d hd), h3⟩
theorem endN_le (s : Nat) : ∀ r : List S54, s ≤ endN s r
  | [] => Nat.le_refl _
  | c :: r => by
    show s ≤ addN c (endN s r)
    rw [addN_own]
    exact Nat.le_trans (endN_le s r) Nat.left_le_or
theorem endN_lt {n s : Nat} (hs : s < 2 ^ n) : ∀ r : List S54, (∀ c ∈ r, okC n c) → endN s r < 2 ^ n
  | [], _ => hs
  | c :: r, h => addN_lt (h c (List.mem_cons_self)) (endN_lt hs r (fun d hd => h d (List.mem_cons_of_mem _ hd)))
theorem endN_gt {s : Nat} {c : S54} (r : List S54) (h : keepN s c = true) : s < endN s (c :: r) := by
  rcases Nat.lt_or_eq_of_le (endN_le s (c :: r)) with h1 | h1
  · exact h1
  · exfalso
    have ha : (endN s (c :: r)).testBit (bA c) = true := by
      show ((endN s r ||| 2 ^ bA c) ||| 2 ^ bB c).testBit (bA c) = true
      rw [Nat.testBit_or, Nat.testBit_or, Nat.testBit_two_pow_self]
      simp
    have hb : (endN s (c :: r)).testBit (bB c) = true := by
      show ((endN s r ||| 2 ^ bA c) ||| 2 ^ bB c).testBit (bB c) = true
      rw [Nat.testBit_or, Nat.testBit_two_pow_self]
      simp
    rw [← h1] at ha hb
    simp [keepN, ha, hb] at h
theorem endN_or (y : Nat) : ∀ (r : List S54) (s : Nat), endN (s ||| y) r = endN s r ||| y
  | [], _ => rfl
  | c :: r, s => by
    show addN c (endN (s ||| y) r) = addN c (endN s r) ||| y
    rw [endN_or y r s, addN_own, addN_own, Nat.or_assoc, Nat.or_comm y, Nat.or_assoc]
theorem foldl_own : ∀ (r : List S54) (s : Nat), r.foldl (fun x c => x ||| own c) s = endN s r
  | [], _ => rfl
  | c :: r, s => by
    rw [List.foldl_cons, foldl_own r, endN_or]
    show _ = addN c (endN s r)
    rw [addN_own]
/-! impl.behind, impl.matchings -/
theorem shA {n : Nat} {c : S54} (hn : n ≤ 8) (h : okC n c) : 0 ≤ c.f0 ∧ 0 ≤ c.f1 ∧ shl .u16 1 c.f0 = ((2 ^ bA c : Nat) : Int) ∧ shl .u16 1 c.f1 = ((2 ^ bB c : Nat) : Int) ∧ shl .i64 1 c.f0 = ((2 ^ bA c : Nat) : Int) ∧ shl .i64 1 c.f1 = ((2 ^ bB c : Nat) : Int) := by
  obtain ⟨h1, h2, h3⟩ := h
  exact ⟨h1, by omega, shl_u16_at _ h1 (by omega), shl_u16_at _ (by omega) (by omega), shl_i64_at _ h1 (by omega), shl_i64_at _ (by omega) (by omega)⟩
theorem lt_1024 {n x : Nat} (hn : n ≤ 8) (h : x < 2 ^ n) : x < 1024 := by
  have := pw hn
  omega
theorem own_u16 {n : Nat} {c : S54} (hn : n ≤ 8) (h : okC n c) : Go.bits .or .u16 (shl .u16 1 c.f0) (shl .u16 1 c.f1) = ((own c : Nat) : Int) := by
  obtain ⟨_, _, e1, e2, _, _⟩ := shA hn h
  rw [e1, e2, ou (lt_1024 hn (pA h)) (lt_1024 hn (pB h))]
  rfl
theorem mem_at {L : List S54} {i : Nat} (h : i < L.length) : L.getD i z54 ∈ L := by rw [getD_at _ _ _ h]; exact List.getElem_mem _
theorem behind_l0 {n : Nat} (hn : n ≤ 8) (L : List S54) (hL : ∀ c ∈ L, okC n c) (hl : L.length ≤ 1000) : ∀ (d i s : Nat), i + d = L.length → s < 2 ^ n → Ev (fun k => impl_behind.l0 k (s : Int) L (L.length : Int) (i : Int)) (((L.drop i).foldl (fun x c => x ||| own c) s : Nat) : Int) := by
  intro d
  induction d with
  | zero =>
    intro i s hi hs
    have q : ¬ (i : Int) < (L.length : Int) := by omega
    refine Ev.step (fun k => by simp only [impl_behind.l0, if_neg q] <;> exact rfl) ?_
    rw [List.drop_eq_nil_of_le (by omega)]
    exact ev_now _
  | succ d ih =>
    intro i s hi hs
    have q1 : (i : Int) < (L.length : Int) := by omega
    have q2 : (0 : Int) ≤ (i : Int) := by omega
    have hc := hL _ (mem_at (show i < L.length by omega))
    have er : rd_T54 L (i : Int) = L.getD i z54 := rfl
    rw [drop_at L i z54 (by omega), List.foldl_cons]
    generalize L.getD i z54 = c at hc er ⊢
    obtain ⟨g0, g1, _⟩ := shA hn hc
    have e : wrap64 ((i : Int) + 1) = ((i + 1 : Nat) : Int) := by rw [w64 (by omega) (by omega)]; omega
    refine Ev.step (fun k => by simp only [impl_behind.l0, if_pos q1, if_pos q2, er, if_pos g0, if_pos g1, own_u16 hn hc, ou (lt_1024 hn hs) (lt_1024 hn (own_lt hc)), e] <;> exact rfl) ?_
    exact ih (i + 1) (s ||| own c) (by omega) (Nat.or_lt_two_pow hs (own_lt hc))
theorem behind_ev {n : Nat} (hn : n ≤ 8) (L : List S54) (hL : ∀ c ∈ L, okC n c) (hl : L.length ≤ 1000) (s : Nat) (hs : s < 2 ^ n) : Ev (fun k => impl_behind.f k (s : Int) L) ((endN s L : Nat) : Int) := by
  unfold impl_behind.f
  have := behind_l0 hn L hL hl L.length 0 s (by omega) hs
  rw [List.drop_zero, foldl_own] at this
  exact this
theorem call_f (l : List S54) (h : l.length ≤ 1000) : impl_Call.f l = some l := by
  unfold impl_Call.f
  simp only [Option.bind_some, List.length_nil, List.nil_append]
  rw [if_pos (by omega)]
theorem arith1 {a b c M : Nat} (h : a + (c + 1 + b) < M) : a < M ∧ (a + 1) + c < M ∧ (a + 1 + c) + b < M := by omega
set_option maxHeartbeats 2000000 in
theorem m_l0 {n : Nat} (hn : n ≤ 8) (L : List S54) (hL : ∀ c ∈ L, okC n c) (hl : L.length ≤ 1000) (x5 : Int) : ∀ (d i : Nat) (lst : List S54) (seen : Nat) (out : List (List S54)), i + d = L.length → lst.length ≤ i → seen < 2 ^ n → out.length + (go (L.drop i) seen).length < 1048576 →
    Ev (fun k => impl_matchingsLit1.l0 k lst (seen : Int) out L x5 (i : Int)) (out ++ (go (L.drop i) seen).map (lst ++ ·)) := by
  intro d
  induction d with
  | zero =>
    intro i lst seen out hi hlst hs ho
    have q : ¬ (i : Int) < (L.length : Int) := by omega
    refine Ev.step (fun k => by simp only [impl_matchingsLit1.l0, if_neg q] <;> exact rfl) ?_
    rw [List.drop_eq_nil_of_le (by omega)]
    simpa [go] using ev_now _
  | succ d ih =>
    intro i lst seen out hi hlst hs ho
    have hi1 : i < L.length := by omega
    have q1 : (i : Int) < (L.length : Int) := by omega
    have q2 : (0 : Int) ≤ (i : Int) := by omega
    have hc := hL _ (mem_at (show i < L.length by omega))
    have er : rd_T54 L (i : Int) = L.getD i z54 := rfl
    rw [drop_at L i z54 (by omega)] at ho ⊢
    generalize L.getD i z54 = c at hc er ho ⊢
    obtain ⟨g0, g1, _⟩ := shA hn hc
    have e : wrap64 ((i : Int) + 1) = ((i + 1 : Nat) : Int) := by rw [w64 (by omega) (by omega)]; omega
    have n1 : i + 1 + d = L.length := by omega
    have n2 : lst.length ≤ i + 1 := Nat.le_succ_of_le hlst
    have n3 : (lst ++ [c]).length ≤ i + 1 := by rw [List.length_append, List.length_singleton]; exact Nat.succ_le_succ hlst
    have hll : lst.length ≤ 1000 := Nat.le_trans hlst (Nat.le_trans (Nat.le_of_lt hi1) hl)
    have c1 : lst.length + 1 < 8796093022208 := Nat.lt_of_le_of_lt (Nat.succ_le_succ hll) (by decide)
    have hor := ou (lt_1024 hn hs) (lt_1024 hn (own_lt hc))
    have hfe := free_eq hn hc hs
    rw [go] at ho ⊢
    by_cases hf : freeN seen c = true
    · rw [if_pos hf] at ho ⊢
      simp only [List.length_append, List.length_cons, List.length_map] at ho
      obtain ⟨c2, c3, c4⟩ := arith1 ho
      have i1 := ih (i + 1) (lst ++ [c]) (seen ||| own c) (out ++ [lst ++ [c]]) n1 n3 (Nat.or_lt_two_pow hs (own_lt hc)) (by rw [List.length_append, List.length_singleton]; exact c3)
      have i2 := ih (i + 1) lst seen (out ++ [lst ++ [c]] ++ (go (L.drop (i + 1)) (seen ||| own c)).map ((lst ++ [c]) ++ ·)) n1 n2 hs (by rw [List.length_append, List.length_append, List.length_singleton, List.length_map]; exact c4)
      have hand : Go.bits .and .u16 (seen : Int) ((own c : Nat) : Int) = ((seen &&& own c : Nat) : Int) := au (lt_1024 hn hs) (lt_1024 hn (own_lt hc))
      have hz : ((seen &&& own c : Nat) : Int) = 0 := by rw [← hfe] at hf; rw [hf]; rfl
      refine Ev.step (fun k => by simp only [impl_matchingsLit1.l0, if_pos q1, if_pos q2, er, if_pos g0, if_pos g1, own_u16 hn hc, hand, if_pos hz, call_f lst hll, Option.bind_some, List.length_singleton, if_pos c1, hor, e] <;> exact rfl) ?_
      refine Ev.bind (a := out ++ [lst ++ [c]] ++ (go (L.drop (i + 1)) (seen ||| own c)).map ((lst ++ [c]) ++ ·)) ?_ ?_
      · refine Ev.step (fun k => by simp only [impl_matchingsLit1.f, if_pos c2] <;> exact rfl) ?_
        exact i1
      · have e3 : out ++ List.map (lst ++ ·) ([c] :: (go (L.drop (i + 1)) (seen ||| own c)).map (c :: ·) ++ go (L.drop (i + 1)) seen) = out ++ [lst ++ [c]] ++ (go (L.drop (i + 1)) (seen ||| own c)).map ((lst ++ [c]) ++ ·) ++ (go (L.drop (i + 1)) seen).map (lst ++ ·) := by
          simp [List.map_append, List.map_map, Function.comp_def]
        rw [e3]
        exact i2
    · rw [if_neg hf, List.nil_append] at ho ⊢
      have hand : Go.bits .and .u16 (seen : Int) ((own c : Nat) : Int) = ((seen &&& own c : Nat) : Int) := au (lt_1024 hn hs) (lt_1024 hn (own_lt hc))
      have hz : ¬ ((seen &&& own c : Nat) : Int) = 0 := by rw [← hfe] at hf; exact fun h_ => hf (Int.ofNat.inj h_)
      refine Ev.step (fun k => by simp only [impl_matchingsLit1.l0, if_pos q1, if_pos q2, er, if_pos g0, if_pos g1, own_u16 hn hc, hand, if_neg hz, e] <;> exact rfl) ?_
      exact ih (i + 1) lst seen out n1 n2 hs ho
theorem matchings_ev {n : Nat} (hn : n ≤ 8) (L : List S54) (hL : ∀ c ∈ L, okC n c) (hl : L.length ≤ 1000) (hg : (go L 0).length + 1 < 1048576) : Ev (fun k => impl_matchings.f k L) ([] :: go L 0) := by
  unfold impl_matchings.f
  have c2 : ([] : List (List S54)).length < 1048576 := by simp
  refine Ev.step (fun k => by simp only [impl_matchingsLit1.f, if_pos c2] <;> exact rfl) ?_
  have := m_l0 hn L hL hl 0 L.length 0 [] 0 [[]] (by omega) (by simp) (Nat.two_pow_pos n) (by rw [List.drop_zero]; simp; omega)
  simpa using this
theorem arith3 {a d M : Nat} (h : a + (d + 1) ≤ M) : a + 1 + d ≤ M := by omega
theorem arith4 {a b M : Nat} (h : a + b ≤ M) : b ≤ M := by omega
theorem arith2 {a b c M : Nat} (h : a + (c + 1 + b) < M) : 1 + c < M ∧ (a + (1 + c)) + b < M ∧ a + (c + 1) ≤ M := by omega
theorem addI {n s : Nat} {c : S54} (hn : n ≤ 8) (hs : s < 2 ^ n) (hc : okC n c) (r : List S54) (hr : ∀ d ∈ r, okC n d) : Go.bits .or .i64 (Go.bits .or .i64 (endI s r) (shl .i64 1 c.f0)) (shl .i64 1 c.f1) = endI s (c :: r) := by
  obtain ⟨_, _, _, _, e1, e2⟩ := shA hn hc
  have h1 := endN_lt hs r hr
  rw [e1, e2]
  unfold endI
  rw [oi (lt_1024 hn h1) (lt_1024 hn (pA hc)), oi (lt_1024 hn (Nat.or_lt_two_pow h1 (pA hc))) (lt_1024 hn (pB hc))]
  rfl
theorem usedI {n u : Nat} {c : S54} (hn : n ≤ 8) (hu : u < 2 ^ n) (hc : okC n c) : Go.bits .or .i64 (Go.bits .or .i64 (u : Int) (shl .i64 1 c.f0)) (shl .i64 1 c.f1) = ((u ||| own c : Nat) : Int) := by
  obtain ⟨_, _, _, _, e1, e2⟩ := shA hn hc
  rw [e1, e2, oi (lt_1024 hn hu) (lt_1024 hn (pA hc)), oi (lt_1024 hn (Nat.or_lt_two_pow hu (pA hc))) (lt_1024 hn (pB hc)), Nat.or_assoc]
  rfl
set_option maxHeartbeats 2000000 in
theorem s_l1 {n : Nat} (hn : n ≤ 8) (L : List S54) {s u i : Nat} (hs : s < 2 ^ n) {c : S54} (hc : okC n c) (hi : i < 1000) (sub : List (List S54)) (hsl : sub.length ≤ 1048576) (hsub : ∀ r ∈ sub, r.length ≤ 1000 ∧ ∀ d ∈ r, okC n d) (R : List (List S54) × List Int) :
    ∀ (d j : Nat) (rows : List (List S54)), j + d = sub.length → rows.length + d ≤ 1048576 →
    Ev (fun k => spec_roSteps.l0 k L (u : Int) (s : Int) (rows ++ (sub.drop j).map (c :: ·)) ((rows ++ (sub.drop j).map (c :: ·)).map (endI s)) ((i + 1 : Nat) : Int)) R →
    Ev (fun k => spec_roSteps.l1 k L (u : Int) (s : Int) rows (rows.map (endI s)) (i : Int) (sub.map (endI s)) sub (sub.length : Int) (j : Int) c.f0 c.f1) R := by
  intro d
  induction d with
  | zero =>
    intro j rows hj hr h
    have q : ¬ (j : Int) < (sub.length : Int) := by omega
    have e : wrap64 ((i : Int) + 1) = ((i + 1 : Nat) : Int) := by rw [w64 (by omega) (by omega)]; omega
    refine Ev.step (fun k => by simp only [spec_roSteps.l1, if_neg q, e] <;> exact rfl) ?_
    rw [List.drop_eq_nil_of_le (by omega)] at h
    simpa using h
  | succ d ih =>
    intro j rows hj hr h
    have hj1 : j < sub.length := by omega
    have q1 : (j : Int) < (sub.length : Int) := by omega
    have q2 : (0 : Int) ≤ (j : Int) := by omega
    have er : rd_L3 sub (j : Int) = sub.getD j [] := rfl
    have ee : rd (sub.map (endI s)) (j : Int) = endI s (sub.getD j []) := by
      show (sub.map (endI s)).getD j 0 = _
      rw [getD_map (endI s) sub j [] 0 hj1]
    have q3 : (j : Int) < ((sub.map (endI s)).length : Int) := by rw [List.length_map]; exact q1
    have hm : sub.getD j [] ∈ sub := by rw [getD_at _ _ _ hj1]; exact List.getElem_mem _
    obtain ⟨hrl, hro⟩ := hsub _ hm
    have hr2 : rows.length ≤ 1048576 := by omega
    have c1 : 1 + (sub.getD j []).length < 8796093022208 := Nat.lt_of_le_of_lt (Nat.add_le_add_left hrl 1) (by decide)
    have c2 : rows.length < 5864062014805 := Nat.lt_of_le_of_lt hr2 (by decide)
    have c3 : (rows.map (endI s)).length < 17592186044416 := by rw [List.length_map]; exact Nat.lt_of_le_of_lt hr2 (by decide)
    obtain ⟨g0, g1, _⟩ := shA hn hc
    have ej : wrap64 ((j : Int) + 1) = ((j + 1 : Nat) : Int) := by rw [w64 (by omega) (by omega)]; omega
    have n1 : j + 1 + d = sub.length := by omega
    have n2 : (rows ++ [c :: sub.getD j []]).length + d ≤ 1048576 := by rw [List.length_append, List.length_singleton]; exact arith3 hr
    have ea := addI hn hs hc (sub.getD j []) hro
    have hd := drop_at sub j [] hj1
    have e5 : rows ++ (sub.getD j [] :: sub.drop (j + 1)).map (c :: ·) = rows ++ [c :: sub.getD j []] ++ (sub.drop (j + 1)).map (c :: ·) := by simp
    have e4 : rows.map (endI s) ++ [endI s (c :: sub.getD j [])] = (rows ++ [c :: sub.getD j []]).map (endI s) := by simp
    refine Ev.step (fun k => by simp only [spec_roSteps.l1, if_pos q1, if_pos q2, Option.bind_some, er, List.length_singleton, if_pos c1, if_pos c2, if_pos q3, if_pos g0, if_pos g1, if_pos c3, ee, ea, ej, List.singleton_append] <;> exact rfl) ?_
    rw [e4]
    refine ih (j + 1) (rows ++ [c :: sub.getD j []]) n1 n2 ?_
    rw [hd, e5] at h
    exact h
set_option maxHeartbeats 4000000 in
theorem s_l0 {n : Nat} (hn : n ≤ 8) (L : List S54) (hL : ∀ c ∈ L, okC n c) (hl : L.length ≤ 100) {s : Nat} (hs : s < 2 ^ n) : ∀ (d i u : Nat) (rows : List (List S54)), i + d = L.length → u < 2 ^ n → rows.length + (go ((L.drop i).filter (keepN s)) u).length < 1048576 →
    Ev (fun k => spec_roSteps.l0 k L (u : Int) (s : Int) rows (rows.map (endI s)) (i : Int)) (rows ++ go ((L.drop i).filter (keepN s)) u, (rows ++ go ((L.drop i).filter (keepN s)) u).map (endI s)) := by
  intro d
  induction d with
  | zero =>
    intro i u rows hi hu ho
    have q : ¬ (i : Int) < (L.length : Int) := by omega
    refine Ev.step (fun k => by simp only [spec_roSteps.l0, if_neg q] <;> exact rfl) ?_
    rw [List.drop_eq_nil_of_le (by omega), List.filter_nil, go, List.append_nil]
    exact ev_now _
  | succ d ih =>
    intro i u rows hi hu ho
    have hi1 : i < L.length := by omega
    have hi2 : i < 1000 := by omega
    have q1 : (i : Int) < (L.length : Int) := by omega
    have q2 : (0 : Int) ≤ (i : Int) := by omega
    have n1 : i + 1 + d = L.length := by omega
    have e : wrap64 ((i : Int) + 1) = ((i + 1 : Nat) : Int) := by rw [w64 (by omega) (by omega)]; omega
    have hc := hL _ (mem_at hi1)
    have er : rd_T54 L (i : Int) = L.getD i z54 := rfl
    rw [drop_at L i z54 hi1] at ho ⊢
    generalize L.getD i z54 = c at hc er ho ⊢
    obtain ⟨g0, g1, _⟩ := shA hn hc
    have b0 : c.f0 < 10 := by obtain ⟨h1, h2, h3⟩ := hc; omega
    have b1 : c.f1 < 10 := by obtain ⟨h1, h2, h3⟩ := hc; omega
    have us := lt_1024 hn hs
    have uu := lt_1024 hn hu
    have st : ∀ k es, spec_roSteps.l0 (k + 1) L (u : Int) (s : Int) rows es (i : Int) = spec_roSteps.j1 k L (u : Int) (s : Int) rows es (i : Int) (!(keepN s c && freeN u c)) c.f0 c.f1 := by
      intro k es
      simp only [spec_roSteps.l0, if_pos q1, if_pos q2, er, if_pos g0, if_pos g1, ti us g0 b0, ti us g1 b1, ti uu g0 b0, ti uu g1 b1, keepN, freeN, bA, bB]
      cases s.testBit c.f0.toNat <;> cases s.testBit c.f1.toNat <;> cases u.testBit c.f0.toNat <;> cases u.testBit c.f1.toNat <;> simp
    have sj : ∀ k es, spec_roSteps.j1 (k + 1) L (u : Int) (s : Int) rows es (i : Int) true c.f0 c.f1 = spec_roSteps.l0 k L (u : Int) (s : Int) rows es ((i + 1 : Nat) : Int) := by
      intro k es
      simp only [spec_roSteps.j1, if_true, e]
    by_cases hk : keepN s c = true
    · rw [List.filter_cons_of_pos hk] at ho ⊢
      rw [go] at ho ⊢
      by_cases hf : freeN u c = true
      · rw [if_pos hf] at ho ⊢
        simp only [List.length_append, List.length_cons, List.length_map] at ho
        obtain ⟨c2, c3, c4⟩ := arith2 ho
        have i1 := ih (i + 1) (u ||| own c) [[]] n1 (Nat.or_lt_two_pow hu (own_lt hc)) c2
        have i2 := ih (i + 1) u (rows ++ ([] :: go ((L.drop (i + 1)).filter (keepN s)) (u ||| own c)).map (c :: ·)) n1 hu (by rw [List.length_append, List.length_map, List.length_cons, Nat.add_comm _ 1]; exact c3)
        refine Ev.step (fun k => st k _) ?_
        rw [show (!(keepN s c && freeN u c)) = false by rw [hk, hf]; rfl]
        refine Ev.step (fun k => by simp only [spec_roSteps.j1, Bool.false_eq_true, if_false, if_pos g0, if_pos g1, usedI hn hu hc, e] <;> exact rfl) ?_
        refine Ev.bind (a := ([] :: go ((L.drop (i + 1)).filter (keepN s)) (u ||| own c), ([] :: go ((L.drop (i + 1)).filter (keepN s)) (u ||| own c)).map (endI s))) ?_ ?_
        · refine Ev.step (fun k => by simp only [spec_roSteps.f] <;> exact rfl) ?_
          exact i1
        · refine s_l1 hn L hs hc hi2 ([] :: go ((L.drop (i + 1)).filter (keepN s)) (u ||| own c)) (arith4 c4) (fun r hr => ?_) _ ([] :: go ((L.drop (i + 1)).filter (keepN s)) (u ||| own c)).length 0 rows (Nat.zero_add _) c4 ?_
          · rcases List.mem_cons.1 hr with rfl | hr
            · exact ⟨Nat.zero_le _, fun d hd => by cases hd⟩
            · obtain ⟨h1, h2, _⟩ := go_mem _ _ r hr
              have h3 := List.length_filter_le (keepN s) (L.drop (i + 1))
              rw [List.length_drop] at h3
              exact ⟨by omega, fun d hd => hL d (List.mem_of_mem_drop ((List.mem_filter.1 (h2 d hd)).1))⟩
          · have e3 : rows ++ ([c] :: (go ((L.drop (i + 1)).filter (keepN s)) (u ||| own c)).map (c :: ·) ++ go ((L.drop (i + 1)).filter (keepN s)) u) = rows ++ ([] :: go ((L.drop (i + 1)).filter (keepN s)) (u ||| own c)).map (c :: ·) ++ go ((L.drop (i + 1)).filter (keepN s)) u := by
              rw [List.append_assoc]
              rfl
            rw [e3, List.drop_zero]
            exact i2
      · rw [if_neg hf, List.nil_append] at ho ⊢
        refine Ev.step (fun k => st k _) ?_
        rw [show (!(keepN s c && freeN u c)) = true by rw [hk, Bool.eq_false_iff.2 hf]; rfl]
        refine Ev.step (fun k => sj k _) ?_
        exact ih (i + 1) u rows n1 hu ho
    · rw [List.filter_cons_of_neg hk] at ho ⊢
      refine Ev.step (fun k => st k _) ?_
      rw [show (!(keepN s c && freeN u c)) = true by rw [Bool.eq_false_iff.2 hk]; rfl]
      refine Ev.step (fun k => sj k _) ?_
      exact ih (i + 1) u rows n1 hu ho
def stepsN (L : List S54) (s : Nat) : List (List S54) := go (L.filter (keepN s)) 0
def endsN (L : List S54) (s : Nat) : List Nat := (stepsN L s).map (endN s)
theorem steps_len {n : Nat} (hn : n ≤ 8) (L : List S54) (hL : ∀ c ∈ L, okC n c) (hl : L.length ≤ 28) (s : Nat) : (stepsN L s).length + 1 ≤ 707281 := by
  have h1 := go_len hn (L.filter (keepN s)) 0 4 (Nat.two_pow_pos n) (fun c hc => hL c (List.mem_filter.1 hc).1) (by decide)
  have h2 := List.length_filter_le (keepN s) L
  have h3 : ((L.filter (keepN s)).length + 1) ^ 4 ≤ 29 ^ 4 := Nat.pow_le_pow_left (by omega) 4
  have h4 : 29 ^ 4 = 707281 := by decide
  exact Nat.le_trans h1 (h4 ▸ h3)
theorem steps_ev {n : Nat} (hn : n ≤ 8) (L : List S54) (hL : ∀ c ∈ L, okC n c) (hl : L.length ≤ 28) {s : Nat} (hs : s < 2 ^ n) : Ev (fun k => spec_roSteps.f k L 0 0 (s : Int)) ([] :: stepsN L s, ([] :: stepsN L s).map (endI s)) := by
  refine Ev.step (fun k => by simp only [spec_roSteps.f] <;> exact rfl) ?_
  have h1 := steps_len hn L hL hl s
  have := s_l0 hn L hL (by omega) hs L.length 0 0 [[]] (Nat.zero_add _) (Nat.two_pow_pos n) (by rw [List.drop_zero]; exact Nat.lt_of_le_of_lt (by rw [List.length_singleton, Nat.add_comm]; exact h1) (by decide))
  exact this
def nextV (v b : Int) : Int := if 0 ≤ v then (if b < 0 then v + 1 else if v + 1 < b then v + 1 else b) else b
def valF (n : Nat) (L : List S54) : Nat → Nat → Int
  | 0, _ => -1
  | k + 1, s => if s = 2 ^ n - 1 then 0 else (endsN L s).foldl (fun b e => nextV (valF n L k e) b) (-1)
def valN (n : Nat) (L : List S54) (s : Nat) : Int := valF n L 256 s
theorem steps_in {n : Nat} {L : List S54} (hL : ∀ c ∈ L, okC n c) {s : Nat} (hs : s < 2 ^ n) : ∀ r ∈ stepsN L s, r.length ≤ L.length ∧ (∀ c ∈ r, okC n c) ∧ s < endN s r ∧ endN s r < 2 ^ n := by
  intro r hr
  obtain ⟨h1, h2, c, r', rfl⟩ := go_mem _ _ r hr
  have h3 : ∀ d ∈ c :: r', okC n d := fun d hd => hL d (List.mem_filter.1 (h2 d hd)).1
  have h4 := List.length_filter_le (keepN s) L
  exact ⟨by omega, h3, endN_gt r' (List.mem_filter.1 (h2 c (List.mem_cons_self))).2, endN_lt hs _ h3⟩
theorem ends_in {n : Nat} {L : List S54} (hL : ∀ c ∈ L, okC n c) {s : Nat} (hs : s < 2 ^ n) : ∀ e ∈ endsN L s, s < e ∧ e < 2 ^ n := by
  intro e he
  obtain ⟨r, hr, rfl⟩ := List.mem_map.1 he
  exact (steps_in hL hs r hr).2.2
theorem foldl_eq {f g : Int → Nat → Int} : ∀ (l : List Nat) (b : Int), (∀ e ∈ l, ∀ b, f b e = g b e) → l.foldl f b = l.foldl g b
  | [], _, _ => rfl
  | e :: l, b, h => by
    rw [List.foldl_cons, List.foldl_cons, h e (List.mem_cons_self)]
    exact foldl_eq l _ (fun x hx => h x (List.mem_cons_of_mem _ hx))
theorem valF_stable {n : Nat} {L : List S54} (hL : ∀ c ∈ L, okC n c) : ∀ (k s : Nat), s < 2 ^ n → 2 ^ n - s ≤ k → valF n L (k + 1) s = valF n L k s
  | 0, s, h, h' => by omega
  | k + 1, s, h, h' => by
    show (if s = 2 ^ n - 1 then (0 : Int) else (endsN L s).foldl (fun b e => nextV (valF n L (k + 1) e) b) (-1)) = if s = 2 ^ n - 1 then (0 : Int) else (endsN L s).foldl (fun b e => nextV (valF n L k e) b) (-1)
    split
    · rfl
    · refine foldl_eq _ _ (fun e he b => ?_)
      obtain ⟨h1, h2⟩ := ends_in hL h e he
      simp only [valF_stable hL k e h2 (by omega)]
theorem valN_eq {n : Nat} (hn : n ≤ 8) {L : List S54} (hL : ∀ c ∈ L, okC n c) {s : Nat} (hs : s < 2 ^ n) : valN n L s = if s = 2 ^ n - 1 then 0 else (endsN L s).foldl (fun b e => nextV (valN n L e) b) (-1) := by
  have hp := pw hn
  unfold valN
  rw [← valF_stable hL 256 s hs (by omega)]
  rfl
theorem foldl_bd {f : Int → Nat → Int} (m : Int) : ∀ (l : List Nat) (b : Int), -1 ≤ b ∧ b ≤ m → (∀ e ∈ l, ∀ b, -1 ≤ b ∧ b ≤ m → -1 ≤ f b e ∧ f b e ≤ m) → -1 ≤ l.foldl f b ∧ l.foldl f b ≤ m
  | [], _, h, _ => h
  | e :: l, b, h, hf => foldl_bd m l _ (hf e (List.mem_cons_self) b h) (fun x hx => hf x (List.mem_cons_of_mem _ hx))
theorem nextV_bd {v b m : Int} (hv : -1 ≤ v ∧ v ≤ m) (hb : -1 ≤ b ∧ b ≤ m + 1) : -1 ≤ nextV v b ∧ nextV v b ≤ m + 1 := by
  unfold nextV
  split
  · split
    · omega
    · split <;> omega
  · omega
theorem valF_bd (n : Nat) (L : List S54) : ∀ (k s : Nat), -1 ≤ valF n L k s ∧ valF n L k s ≤ (k : Int)
  | 0, s => by show (-1 : Int) ≤ -1 ∧ (-1 : Int) ≤ ((0 : Nat) : Int); omega
  | k + 1, s => by
    show -1 ≤ (if s = 2 ^ n - 1 then (0 : Int) else (endsN L s).foldl (fun b e => nextV (valF n L k e) b) (-1)) ∧ (if s = 2 ^ n - 1 then (0 : Int) else (endsN L s).foldl (fun b e => nextV (valF n L k e) b) (-1)) ≤ ((k + 1 : Nat) : Int)
    split
    · omega
    · rw [Int.natCast_succ]
      exact foldl_bd ((k : Int) + 1) _ _ (by omega) (fun e _ b hb => nextV_bd (valF_bd n L k e) hb)
theorem valN_bd (n : Nat) (L : List S54) (s : Nat) : -1 ≤ valN n L s ∧ valN n L s ≤ 256 := valF_bd n L 256 s
/-! spec.roReach -/
def stp (T : List Int) (i : Nat) (b : Int) (e : Nat) : Int := if i < e then nextV (T.getD e 0) b else b
set_option maxHeartbeats 2000000 in
theorem r_l1 (L : List S54) (T : List Int) (i : Nat) (hi : i < T.length) (hT : T.length ≤ 256) (es : List Nat) (hlen : es.length ≤ 1048576) (hes : ∀ e ∈ es, e < T.length) (hv : ∀ e ∈ es, i < e → -1 ≤ T.getD e 0 ∧ T.getD e 0 ≤ 256) (R : List Int) :
    ∀ (d j : Nat) (b : Int), j + d = es.length → -1 ≤ b ∧ b ≤ 257 → Ev (fun k => spec_roReach.l0 k L (T.set i ((es.drop j).foldl (stp T i) b)) ((i : Int) - 1)) R →
    Ev (fun k => spec_roReach.l1 k L (T.set i b) (i : Int) (es.map fun e : Nat => (e : Int)) (es.length : Int) (j : Int)) R := by
  intro d
  induction d with
  | zero =>
    intro j b hj hb h
    have q : ¬ (j : Int) < (es.length : Int) := by omega
    have e : wrap64 ((i : Int) - 1) = (i : Int) - 1 := w64 (by omega) (by omega)
    refine Ev.step (fun k => by simp only [spec_roReach.l1, if_neg q, e] <;> exact rfl) ?_
    rw [List.drop_eq_nil_of_le (by omega)] at h
    exact h
  | succ d ih =>
    intro j b hj hb h
    have hj1 : j < es.length := by omega
    have q1 : (j : Int) < (es.length : Int) := by omega
    have q2 : (0 : Int) ≤ (j : Int) := by omega
    have q3 : (j : Int) < ((es.map fun e : Nat => (e : Int)).length : Int) := by rw [List.length_map]; exact q1
    have n1 : j + 1 + d = es.length := by omega
    have ej : wrap64 ((j : Int) + 1) = ((j + 1 : Nat) : Int) := by rw [w64 (by omega) (by omega)]; omega
    have ee : rd (es.map fun e : Nat => (e : Int)) (j : Int) = ((es.getD j 0 : Nat) : Int) := by
      show (es.map fun e : Nat => (e : Int)).getD j 0 = _
      rw [getD_map (fun e : Nat => (e : Int)) es j 0 0 hj1]
    have hm : es.getD j 0 ∈ es := by rw [getD_at _ _ _ hj1]; exact List.getElem_mem _
    have he := hes _ hm
    have hve := hv _ hm
    rw [drop_at es j 0 hj1, List.foldl_cons] at h
    generalize es.getD j 0 = e at ee he hve h
    by_cases hie : i < e
    · have hie' : (e : Int) > (i : Int) := by omega
      obtain ⟨v0, v1⟩ := hve hie
      have p1 : (0 : Int) ≤ (e : Int) := by omega
      have p2 : (e : Int) < ((T.set i b).length : Int) := by rw [List.length_set]; omega
      have p3 : (0 : Int) ≤ (i : Int) := by omega
      have p4 : (i : Int) < ((T.set i b).length : Int) := by rw [List.length_set]; omega
      have r1 : rd (T.set i b) (e : Int) = T.getD e 0 := by
        show (T.set i b).getD e 0 = _
        rw [getD_set _ _ _ _ _ he, if_neg (by omega)]
      have r2 : rd (T.set i b) (i : Int) = b := by
        show (T.set i b).getD i 0 = _
        rw [getD_set _ _ _ _ _ hi, if_pos rfl]
      have es1 : stp T i b e = nextV (T.getD e 0) b := by unfold stp; rw [if_pos hie]
      rw [es1] at h
      generalize T.getD e 0 = v at v0 v1 r1 h
      by_cases hv0 : 0 ≤ v
      · have hv0' : v ≥ 0 := hv0
        have ev : wrap64 (v + 1) = v + 1 := w64 (by omega) (by omega)
        have hset : (T.set i b).set ((i : Int)).toNat (v + 1) = T.set i (v + 1) := by rw [Int.toNat_natCast, List.set_set]
        by_cases hb0 : b < 0
        · have en : nextV v b = v + 1 := by unfold nextV; rw [if_pos hv0, if_pos hb0]
          rw [en] at h
          refine Ev.step (fun k => by simp only [spec_roReach.l1, if_pos q1, if_pos q2, if_pos q3, ee, if_pos hie', if_pos p1, if_pos p2, r1, if_pos hv0', if_pos p3, if_pos p4, r2, if_pos hb0, ev, ej, hset] <;> exact rfl) ?_
          exact ih (j + 1) (v + 1) n1 (by omega) h
        · by_cases hlt : v + 1 < b
          · have en : nextV v b = v + 1 := by unfold nextV; rw [if_pos hv0, if_neg hb0, if_pos hlt]
            rw [en] at h
            refine Ev.step (fun k => by simp only [spec_roReach.l1, if_pos q1, if_pos q2, if_pos q3, ee, if_pos hie', if_pos p1, if_pos p2, r1, if_pos hv0', if_pos p3, if_pos p4, r2, if_neg hb0, ev, if_pos hlt, ej, hset] <;> exact rfl) ?_
            exact ih (j + 1) (v + 1) n1 (by omega) h
          · have en : nextV v b = b := by unfold nextV; rw [if_pos hv0, if_neg hb0, if_neg hlt]
            rw [en] at h
            refine Ev.step (fun k => by simp only [spec_roReach.l1, if_pos q1, if_pos q2, if_pos q3, ee, if_pos hie', if_pos p1, if_pos p2, r1, if_pos hv0', if_pos p3, if_pos p4, r2, if_neg hb0, ev, if_neg hlt, ej] <;> exact rfl) ?_
            exact ih (j + 1) b n1 hb h
      · have hv0' : ¬ v ≥ 0 := hv0
        have en : nextV v b = b := by unfold nextV; rw [if_neg hv0]
        rw [en] at h
        refine Ev.step (fun k => by simp only [spec_roReach.l1, if_pos q1, if_pos q2, if_pos q3, ee, if_pos hie', if_pos p1, if_pos p2, r1, if_neg hv0', ej] <;> exact rfl) ?_
        exact ih (j + 1) b n1 hb h
    · have hie' : ¬ (e : Int) > (i : Int) := by omega
      have es1 : stp T i b e = b := by unfold stp; rw [if_neg hie]
      rw [es1] at h
      refine Ev.step (fun k => by simp only [spec_roReach.l1, if_pos q1, if_pos q2, if_pos q3, ee, if_neg hie', ej] <;> exact rfl) ?_
      exact ih (j + 1) b n1 hb h
set_option maxHeartbeats 2000000 in
theorem r_l0 {n : Nat} (hn : n ≤ 8) {L : List S54} (hL : ∀ c ∈ L, okC n c) (hl : L.length ≤ 28) : ∀ (m : Nat) (T : List Int), T.length = 2 ^ n → m ≤ 2 ^ n → (∀ x, m ≤ x → x < 2 ^ n → T.getD x 0 = valN n L x) →
    Ev (fun k => spec_roReach.l0 k L T ((m : Int) - 1)) ((List.range (2 ^ n)).map (valN n L)) := by
  intro m
  induction m with
  | zero =>
    intro T hT hm hv
    have q : ¬ (((0 : Nat) : Int) - 1 ≥ 0) := by omega
    refine Ev.step (fun k => by simp only [spec_roReach.l0, if_neg q] <;> exact rfl) ?_
    have e : T = (List.range (2 ^ n)).map (valN n L) := ext_getD 0 (by rw [hT]; simp) (fun x hx => by rw [hv x (Nat.zero_le _) (by omega), getD_range_map _ _ _ _ (by omega)])
    rw [← e]
    exact ev_now _
  | succ m ih =>
    intro T hT hm hv
    have hp := pw hn
    have ex : ((m + 1 : Nat) : Int) - 1 = (m : Int) := by omega
    rw [ex]
    have hm2 : m < 2 ^ n := by omega
    have hi : m < T.length := by rw [hT]; exact hm2
    have q1 : (m : Int) ≥ 0 := by omega
    have q2 : (0 : Int) ≤ (m : Int) := q1
    have q3 : (m : Int) < (T.length : Int) := by omega
    have ew : wrap64 ((T.length : Int) - 1) = (T.length : Int) - 1 := w64 (by omega) (by omega)
    have em : wrap64 ((m : Int) - 1) = (m : Int) - 1 := w64 (by omega) (by omega)
    have fin : Ev (fun k => spec_roReach.l0 k L (T.set m (valN n L m)) ((m : Int) - 1)) ((List.range (2 ^ n)).map (valN n L)) := by
      refine ih (T.set m (valN n L m)) (by rw [List.length_set]; exact hT) (Nat.le_of_lt hm2) (fun x h1 h2 => ?_)
      rw [getD_set _ _ _ _ _ (by omega)]
      by_cases hx : m = x
      · rw [if_pos hx, hx]
      · rw [if_neg hx]
        exact hv x (by omega) h2
    have hev := valN_eq hn hL hm2
    by_cases hfull : m = 2 ^ n - 1
    · have q4 : (m : Int) = (T.length : Int) - 1 := by omega
      rw [if_pos hfull] at hev
      rw [hev] at fin
      have hset : (T.set m (-1)).set ((m : Int)).toNat 0 = T.set m 0 := by rw [Int.toNat_natCast, List.set_set]
      refine Ev.step (fun k => by simp only [spec_roReach.l0, if_pos q1, if_pos q2, if_pos q3, Option.bind_some, Int.toNat_natCast, ew, if_pos q4] <;> exact rfl) ?_
      rw [em]
      rw [Int.toNat_natCast] at hset
      rw [hset]
      exact fin
    · have q4 : ¬ (m : Int) = (T.length : Int) - 1 := by omega
      rw [if_neg hfull] at hev
      refine Ev.step (fun k => by simp only [spec_roReach.l0, if_pos q1, if_pos q2, if_pos q3, Option.bind_some, Int.toNat_natCast, ew, if_neg q4] <;> exact rfl) ?_
      refine Ev.bind (steps_ev hn L hL hl hm2) ?_
      have e1 : ([] :: stepsN L m).map (endI m) = (m :: endsN L m).map fun e : Nat => (e : Int) := by
        show _ :: _ = _ :: _
        rw [endsN, List.map_map]
        rfl
      have e2 : ((([] :: stepsN L m).map (endI m)).length : Int) = (((m :: endsN L m).length : Nat) : Int) := by rw [e1, List.length_map]
      have h1 := steps_len hn L hL hl m
      have hlen : (m :: endsN L m).length ≤ 1048576 := by rw [List.length_cons, endsN, List.length_map]; exact Nat.le_trans h1 (by decide)
      have key := r_l1 L T m hi (by omega) (m :: endsN L m) hlen (fun e he => by
        rcases List.mem_cons.1 he with rfl | he
        · exact hi
        · rw [hT]; exact (ends_in hL hm2 e he).2) (fun e he hme => by
        rcases List.mem_cons.1 he with rfl | he
        · omega
        · rw [hv e (by omega) (ends_in hL hm2 e he).2]
          exact valN_bd n L e) ((List.range (2 ^ n)).map (valN n L)) (m :: endsN L m).length 0 (-1) (Nat.zero_add _) (by omega) (by
        have e3 : ((m :: endsN L m).drop 0).foldl (stp T m) (-1) = valN n L m := by
          rw [List.drop_zero, List.foldl_cons, hev]
          have e4 : stp T m (-1) m = -1 := by unfold stp; rw [if_neg (Nat.lt_irrefl m)]
          rw [e4]
          refine foldl_eq _ _ (fun e he b => ?_)
          obtain ⟨g1, g2⟩ := ends_in hL hm2 e he
          show (if m < e then nextV (T.getD e 0) b else b) = _
          rw [if_pos g1, hv e (by omega) g2]
        rw [e3]
        exact fin)
      simp only [e1, List.length_map]
      exact key
theorem reach_ev {n : Nat} (hn : n ≤ 8) {L : List S54} (hL : ∀ c ∈ L, okC n c) (hl : L.length ≤ 28) : Ev (fun k => spec_roReach.f k (n : Int) L) ((List.range (2 ^ n)).map (valN n L)) := by
  have hp := pw hn
  have h2 := Nat.two_pow_pos n
  have q1 : (0 : Int) ≤ (n : Int) := by omega
  have es : shl .i64 1 (n : Int) = ((2 ^ n : Nat) : Int) := by
    have := shl_i64_at (n : Int) q1 (by omega)
    rwa [Int.toNat_natCast] at this
  have q2 : (0 : Int) ≤ ((2 ^ n : Nat) : Int) := by omega
  have q3 : 2 ^ n ≤ 35184372088832 := Nat.le_trans hp (by decide)
  unfold spec_roReach.f
  simp only [es, if_pos q1, if_pos q2, Int.toNat_natCast, if_pos q3, Option.bind_some, List.length_replicate]
  have e : wrap64 (((2 ^ n : Nat) : Int) - 1) = ((2 ^ n : Nat) : Int) - 1 := w64 (by omega) (by omega)
  rw [e]
  exact r_l0 hn hL hl (2 ^ n) (List.replicate (2 ^ n) 0) (by simp) (Nat.le_refl _) (fun x h1 h2 => by omega)
theorem full_all : ∀ n : Fin 9, impl_spread_full (n.val : Int) = ((2 ^ n.val - 1 : Nat) : Int) := by decide +kernel
theorem full_at {n : Nat} (hn : n ≤ 8) : impl_spread_full (n : Int) = ((2 ^ n - 1 : Nat) : Int) := full_all ⟨n, by omega⟩
theorem same_keep {n : Nat} (hn : n ≤ 8) {L : List S54} (hL : ∀ c ∈ L, okC n c) {s : Nat} (hs : s < 2 ^ n) : (L.filter fun c => !sameP (s : Int) c) = L.filter (keepN s) := by
  refine List.filter_congr (fun c hc => ?_)
  obtain ⟨h1, h2, h3⟩ := hL c hc
  have us := lt_1024 hn hs
  unfold sameP keepN bA bB
  rw [tu us h1 (by omega), tu us (by omega) (by omega)]
  cases s.testBit c.f0.toNat <;> cases s.testBit c.f1.toNat <;> rfl
theorem rounds_ev {n : Nat} (hn : n ≤ 8) {L : List S54} (hL : ∀ c ∈ L, okC n c) (hl : L.length ≤ 28) {s : Nat} (hs : s < 2 ^ n) : Ev (fun k => impl_spread_rounds.f k (s : Int) L) ([] :: stepsN L s) := by
  have q1 : (L.all fun c => decide (0 ≤ c.f0) && decide (0 ≤ c.f1)) = true := List.all_eq_true.2 (fun c hc => by
    obtain ⟨h1, h2, h3⟩ := hL c hc
    simp only [Bool.and_eq_true, decide_eq_true_eq]
    omega)
  have q2 : L.length < 1048576 := Nat.lt_of_le_of_lt hl (by decide)
  have h1 := steps_len hn L hL hl s
  have h2 := List.length_filter_le (keepN s) L
  refine Ev.congr (fun k => by simp only [impl_spread_rounds.f, if_pos q1, if_pos q2, same_keep hn hL hs] <;> exact rfl) ?_
  exact matchings_ev hn (L.filter (keepN s)) (fun c hc => hL c (List.mem_filter.1 hc).1) (by omega) (Nat.lt_of_le_of_lt h1 (by decide))
theorem next_eq {v b : Int} (hv : -1 ≤ v ∧ v ≤ 256) : impl_spread_next v b = nextV v b := by
  unfold impl_spread_next nextV
  rw [w64 (by omega) (by omega)]
def cnt (p : Nat → Bool) : Nat → Nat
  | 0 => 0
  | m + 1 => cnt p m + (if p m = true then 1 else 0)
theorem cnt_le (p : Nat → Bool) : ∀ m, cnt p m ≤ m
  | 0 => Nat.le_refl _
  | m + 1 => by
    have := cnt_le p m
    rw [cnt]
    split <;> omega
theorem cnt_add {p q : Nat → Bool} {s : Nat} (hs : q s = true) (hp : p s = false) (h : ∀ x, s ≠ x → q x = p x) : ∀ m, cnt q m = cnt p m + (if s < m then 1 else 0)
  | 0 => rfl
  | m + 1 => by
    rw [cnt, cnt, cnt_add hs hp h m]
    by_cases hm : s = m
    · subst hm
      rw [hs, hp, if_neg (Nat.lt_irrefl s), if_pos rfl, if_neg (by simp), if_pos (Nat.lt_succ_self s)]
    · rw [h m hm]
      by_cases h1 : s < m
      · rw [if_pos h1, if_pos (Nat.lt_succ_of_lt h1)]
        omega
      · rw [if_neg h1, if_neg (show ¬ s < m + 1 by omega)]
        omega
def lk (memo : List (Int × Int)) (x : Nat) : Option Int := Go.Proofs.Ytgcpbaipdpchfaa.H.look memo (x : Int)
theorem lk_cons (s : Nat) (v : Int) (memo : List (Int × Int)) (x : Nat) : lk (((s : Int), v) :: memo) x = if s = x then some v else lk memo x := by
  show (if ((s : Nat) : Int) = (x : Int) then some v else Go.Proofs.Ytgcpbaipdpchfaa.H.look memo (x : Int)) = _
  by_cases h : s = x
  · rw [if_pos h, if_pos (by omega)]
  · rw [if_neg h, if_neg (by omega)]
    rfl
def MOK (n : Nat) (L : List S54) (memo : List (Int × Int)) : Prop := (∀ x v, lk memo x = some v → v = valN n L x) ∧ memo.length = cnt (fun x => (lk memo x).isSome) 256
theorem mok_nil (n : Nat) (L : List S54) : MOK n L [] := by
  refine ⟨fun x v h => (by cases h), ?_⟩
  have : ∀ m, cnt (fun x => (lk [] x).isSome) m = 0 := by
    intro m
    induction m with
    | zero => rfl
    | succ m ih => rw [cnt, ih]; rfl
  rw [this]
  rfl
theorem mok_cons {n : Nat} {L : List S54} {memo : List (Int × Int)} (h : MOK n L memo) {s : Nat} (hs : s < 256) (hn : lk memo s = none) : MOK n L (((s : Int), valN n L s) :: memo) := by
  refine ⟨fun x v hx => ?_, ?_⟩
  · rw [lk_cons] at hx
    by_cases hq : s = x
    · rw [if_pos hq] at hx
      rw [← Option.some.inj hx, hq]
    · rw [if_neg hq] at hx
      exact h.1 x v hx
  · have := cnt_add (p := fun x => (lk memo x).isSome) (q := fun x => (lk (((s : Int), valN n L s) :: memo) x).isSome) (s := s) (by simp only [lk_cons, if_true, Option.isSome_some]) (by simp only [hn, Option.isSome_none]) (fun x hx => by simp only [lk_cons, if_neg hx]) 256
    rw [this, if_pos hs, List.length_cons, h.2]
def leftGood (n : Nat) (L : List S54) (s : Nat) (memo : List (Int × Int)) : Prop :=
  ∃ memo', MOK n L memo' ∧ (∀ x, x < s → lk memo' x = lk memo x) ∧ Ev (fun k => impl_spread_left.f k (n : Int) L (s : Int) memo) (valN n L s, memo')
theorem loop_ev {n : Nat} (hn : n ≤ 8) {L : List S54} {s : Nat} (hs : s < 2 ^ n) (IH : ∀ e memo, s < e → e < 2 ^ n → MOK n L memo → leftGood n L e memo) :
    ∀ (rs : List (List S54)) (b : Int) (memo : List (Int × Int)), (∀ r ∈ rs, r.length ≤ 1000 ∧ (∀ c ∈ r, okC n c) ∧ s < endN s r ∧ endN s r < 2 ^ n) → MOK n L memo →
    ∃ memo', MOK n L memo' ∧ (∀ x, x ≤ s → lk memo' x = lk memo x) ∧ Ev (fun k => impl_spread_left.l k (n : Int) L (s : Int) rs b memo) ((rs.map (endN s)).foldl (fun b e => nextV (valN n L e) b) b, memo')
  | [], b, memo, _, hM => ⟨memo, hM, fun _ _ => rfl, Ev.step (fun k => by simp only [impl_spread_left.l] <;> exact rfl) (ev_now _)⟩
  | r :: rs, b, memo, hr, hM => by
    obtain ⟨h1, h2, h3, h4⟩ := hr r (List.mem_cons_self)
    obtain ⟨m1, hM1, hx1, hE1⟩ := IH (endN s r) memo h3 h4 hM
    obtain ⟨m2, hM2, hx2, hE2⟩ := loop_ev hn hs IH rs (nextV (valN n L (endN s r)) b) m1 (fun x hx => hr x (List.mem_cons_of_mem _ hx)) hM1
    refine ⟨m2, hM2, fun x hx => (hx2 x hx).trans (hx1 x (Nat.lt_of_le_of_lt hx h3)), ?_⟩
    refine Ev.step (fun k => by simp only [impl_spread_left.l] <;> exact rfl) ?_
    refine Ev.bind (behind_ev hn r h2 h1 s hs) ?_
    refine Ev.bind hE1 ?_
    simp only [next_eq (valN_bd n L (endN s r))]
    exact hE2
set_option maxHeartbeats 1000000 in
theorem left_ev {n : Nat} (hn : n ≤ 8) {L : List S54} (hL : ∀ c ∈ L, okC n c) (hl : L.length ≤ 28) : ∀ (m s : Nat) (memo : List (Int × Int)), s < 2 ^ n → 2 ^ n - s ≤ m → MOK n L memo → leftGood n L s memo := by
  intro m
  induction m with
  | zero => intro s memo hs hm _; omega
  | succ m ih =>
    intro s memo hs hm hM
    have hp := pw hn
    have hc0 : 0 ≤ (n : Int) ∧ (n : Int) ≤ 8 ∧ 0 ≤ (s : Int) ∧ (s : Int) < 65536 := by omega
    have hev := valN_eq hn hL hs
    by_cases hfull : s = 2 ^ n - 1
    · have q : (s : Int) = impl_spread_full (n : Int) := by rw [full_at hn, hfull]
      rw [if_pos hfull] at hev
      refine ⟨memo, hM, fun _ _ => rfl, ?_⟩
      rw [hev]
      exact Ev.step (fun k => by simp only [impl_spread_left.f, if_pos hc0, if_pos q] <;> exact rfl) (ev_now _)
    · have q : ¬ (s : Int) = impl_spread_full (n : Int) := by rw [full_at hn]; omega
      rw [if_neg hfull] at hev
      cases hlk : lk memo s with
      | some v =>
        refine ⟨memo, hM, fun _ _ => rfl, ?_⟩
        have hv := hM.1 s v hlk
        rw [← hv]
        have hlk' : Go.Proofs.Ytgcpbaipdpchfaa.H.look memo (s : Int) = some v := hlk
        exact Ev.step (fun k => by simp only [impl_spread_left.f, if_pos hc0, if_neg q, hlk', Option.isSome_some, if_true, Option.getD_some] <;> exact rfl) (ev_now _)
      | none =>
        obtain ⟨m1, hM1, hx1, hE1⟩ := loop_ev hn hs (fun e mm h1 h2 h3 => ih e mm h2 (by omega) h3) (stepsN L s) (-1) memo (fun r hr => by
          obtain ⟨g1, g2, g3, g4⟩ := steps_in hL hs r hr
          exact ⟨by omega, g2, g3, g4⟩) hM
        have hval : ((stepsN L s).map (endN s)).foldl (fun b e => nextV (valN n L e) b) (-1) = valN n L s := hev.symm
        rw [hval] at hE1
        have hbd := valN_bd n L s
        have hlk1 : lk m1 s = none := (hx1 s (Nat.le_refl s)).trans hlk
        have hlen : m1.length ≤ 256 := by rw [hM1.2]; exact cnt_le _ _
        have hlk' : Go.Proofs.Ytgcpbaipdpchfaa.H.look memo (s : Int) = none := hlk
        have q1 : 1 ≤ ([] :: stepsN L s).length ∧ ([] :: stepsN L s).length < 1048576 := ⟨by rw [List.length_cons]; exact Nat.le_add_left _ _, Nat.lt_of_le_of_lt (steps_len hn L hL hl s) (by decide)⟩
        have q2 : -9223372036854775808 ≤ valN n L s ∧ valN n L s < 9223372036854775808 ∧ m1.length < 1000000 := ⟨by omega, by omega, Nat.lt_of_le_of_lt hlen (by decide)⟩
        refine ⟨((s : Int), valN n L s) :: m1, mok_cons hM1 (by omega) hlk1, fun x hx => ?_, ?_⟩
        · rw [lk_cons, if_neg (by omega)]
          exact hx1 x (Nat.le_of_lt hx)
        · refine Ev.step (fun k => by simp only [impl_spread_left.f, if_pos hc0, if_neg q, hlk', Option.isSome_none, Bool.false_eq_true, if_false] <;> exact rfl) ?_
          refine Ev.bind (rounds_ev hn hL hl hs) ?_
          simp only [if_pos q1, List.drop_succ_cons, List.drop_zero]
          refine Ev.bind hE1 ?_
          simp only [if_pos q2]
          exact ev_now _
/-! the pairs -/
def ordB : S54 → List S54 → Bool
  | _, [] => true
  | p, c :: cs => lessB p c && ordB c cs
theorem roLess_f (c d : S54) : spec_roLess.f c.f0 c.f1 d.f0 d.f1 = some (lessB c d) := by
  unfold spec_roLess.f lessB
  by_cases h1 : c.f0 < d.f0
  · simp [h1]
  · by_cases h2 : c.f0 = d.f0 <;> simp [h1, h2]
theorem pairsB_ord (n : Int) : ∀ (cs : List S54) (p : S54), pairsB n (some p) cs = ((cs.all fun c => isCallB n c.f0 c.f1) && ordB p cs)
  | [], p => rfl
  | c :: cs, p => by
    rw [pairsB, pairsB_ord n cs c, List.all_cons, ordB]
    cases isCallB n c.f0 c.f1 <;> cases lessB p c <;> cases (cs.all fun c => isCallB n c.f0 c.f1) <;> simp
theorem pairsB_ord0 (n : Int) (cs : List S54) : pairsB n none cs = ((cs.all fun c => isCallB n c.f0 c.f1) && ordB (cs.getD 0 z54) (cs.drop 1)) := by
  cases cs with
  | nil => rfl
  | cons c cs =>
    rw [pairsB, pairsB_ord, List.all_cons]
    show _ = ((isCallB n c.f0 c.f1 && _) && ordB c cs)
    rw [Bool.and_assoc]
theorem roPairs_l0 (l : List S54) (h : l.length ≤ 1048576) : ∀ (d i : Nat), 1 ≤ i → i ≤ l.length + 1 → l.length ≤ i + d → Ev (fun k => spec_roPairs.l0 k l (i : Int)) (ordB (l.getD (i - 1) z54) (l.drop i)) := by
  intro d
  induction d with
  | zero =>
    intro i h1 h2 h3
    have q : ¬ (i : Int) < (l.length : Int) := by omega
    refine Ev.step (fun k => by simp only [spec_roPairs.l0, if_neg q] <;> exact rfl) ?_
    rw [List.drop_eq_nil_of_le (by omega)]
    exact ev_now _
  | succ d ih =>
    intro i h1 h2 h3
    by_cases hi : i < l.length
    · have q1 : (i : Int) < (l.length : Int) := by omega
      have e2 : wrap64 ((i : Int) - 1) = ((i - 1 : Nat) : Int) := by rw [w64 (by omega) (by omega)]; omega
      have e1 : wrap64 ((i : Int) + 1) = ((i + 1 : Nat) : Int) := by rw [w64 (by omega) (by omega)]; omega
      have q2 : (0 : Int) ≤ ((i - 1 : Nat) : Int) := by omega
      have q3 : ((i - 1 : Nat) : Int) < (l.length : Int) := by omega
      have q4 : (0 : Int) ≤ (i : Int) := by omega
      have r1 : rd_T54 l (i : Int) = l.getD i z54 := rfl
      have r2 : rd_T54 l ((i - 1 : Nat) : Int) = l.getD (i - 1) z54 := rfl
      have ih' := ih (i + 1) (by omega) (by omega) (by omega)
      rw [Nat.add_sub_cancel] at ih'
      rw [drop_at l i z54 hi, ordB]
      cases hq : lessB (l.getD (i - 1) z54) (l.getD i z54) with
      | true =>
        refine Ev.step (fun k => by simp only [spec_roPairs.l0, if_pos q1, e2, if_pos q2, if_pos q3, if_pos q4, r1, r2, roLess_f, Option.bind_some, hq, if_true, e1] <;> exact rfl) ?_
        rw [Bool.true_and]
        exact ih'
      | false =>
        refine Ev.step (fun k => by simp only [spec_roPairs.l0, if_pos q1, e2, if_pos q2, if_pos q3, if_pos q4, r1, r2, roLess_f, Option.bind_some, hq, Bool.false_eq_true, if_false] <;> exact rfl) ?_
        exact ev_now _
    · have q : ¬ (i : Int) < (l.length : Int) := by omega
      refine Ev.step (fun k => by simp only [spec_roPairs.l0, if_neg q] <;> exact rfl) ?_
      rw [List.drop_eq_nil_of_le (by omega)]
      exact ev_now _
def roGoodB (n : Int) (l : List S54) : Bool := friendsB n && (decide (l.length ≤ 60) && l.all fun c => isCallB n c.f0 c.f1)
theorem roGood_ev (n : Int) (l : List S54) (h : l.length ≤ 1048576) : Ev (fun k => spec_caGood.f k n l) (roGoodB n l) := by
  unfold spec_caGood.f
  simp only [caFriends_f, Option.bind_some]
  cases hf : friendsB n with
  | false =>
    have e : roGoodB n l = false := by simp [roGoodB, hf]
    have hf' : (decide (1 ≤ n) && decide (n ≤ 10)) = false := hf
    rw [e]
    simp only [hf', Bool.false_eq_true, if_false]
    exact Ev.step (f := fun _ => some false) (fun k => by simp [spec_caGood.j0]) (ev_now _)
  | true =>
    have hf' : (decide (1 ≤ n) && decide (n ≤ 10)) = true := hf
    have h12 : 1 ≤ n ∧ n ≤ 10 := by simpa using hf'
    simp only [hf', if_true]
    by_cases h3 : l.length ≤ 60
    · have e : roGoodB n l = l.all fun c => isCallB n c.f0 c.f1 := by simp [roGoodB, hf, h3]
      have e2 : decide ((l.length : Int) > 60) = false := by rw [decide_eq_false_iff_not]; omega
      rw [e, e2]
      refine Ev.step (f := fun k => spec_caGood.l0 k n l (l.length : Int) 0) (fun k => by simp [spec_caGood.j0]) ?_
      simpa using caGood_l0 n l h h12.1 h12.2 l.length 0 (by omega) (by omega)
    · have e : roGoodB n l = false := by simp [roGoodB, h3]
      have e2 : decide ((l.length : Int) > 60) = true := by rw [decide_eq_true_eq]; omega
      rw [e, e2]
      exact Ev.step (f := fun _ => some false) (fun k => by simp [spec_caGood.j0]) (ev_now _)
theorem roPairs_ev (n : Int) (l : List S54) (h : l.length ≤ 1048576) : Ev (fun k => spec_roPairs.f k n l) (arePairsB n l) := by
  unfold spec_roPairs.f
  refine Ev.bind (roGood_ev n l h) ?_
  have hl : arePairsB n l = true → l.length ≤ 60 := fun hh => by have := pairs_45 hh; omega
  have he : arePairsB n l = (roGoodB n l && ordB (l.getD 0 z54) (l.drop 1)) := by
    have e1 : arePairsB n l = (friendsB n && ((l.all fun c => isCallB n c.f0 c.f1) && ordB (l.getD 0 z54) (l.drop 1))) := by
      rw [arePairsB, pairsB_ord0]
    by_cases h3 : l.length ≤ 60
    · rw [e1, roGoodB, decide_eq_true h3, Bool.true_and, Bool.and_assoc]
    · have e2 : arePairsB n l = false := Bool.eq_false_iff.2 (fun hh => h3 (hl hh))
      rw [e2, roGoodB, decide_eq_false h3, Bool.false_and, Bool.and_false, Bool.false_and]
  rw [he]
  cases hg : roGoodB n l with
  | false => simpa using ev_now _
  | true =>
    simp only [if_true, Bool.true_and]
    exact roPairs_l0 l h l.length 1 (Nat.le_refl _) (by omega) (by omega)
def askB (n : Int) (cs : List S54) (a : Int) : Bool := arePairsB n cs && decide (0 ≤ a ∧ a < n)
def resP (n : Int) (cs : List S54) (a : Int) : Int × Bool := if askB n cs a = true ∧ n ≤ 8 then (if valN n.toNat cs (2 ^ a.toNat) < 0 then (0, false) else (valN n.toNat cs (2 ^ a.toNat), true)) else (0, false)
theorem ask_ok {n : Int} {cs : List S54} {a : Int} (h : askB n cs a = true) (hn : n ≤ 8) : 1 ≤ n ∧ 0 ≤ a ∧ a < n ∧ cs.length ≤ 28 ∧ (∀ c ∈ cs, okC n.toNat c) ∧ 2 ^ a.toNat < 2 ^ n.toNat := by
  simp only [askB, Bool.and_eq_true, decide_eq_true_eq] at h
  obtain ⟨h1, h2, h3⟩ := h
  have h4 := pairs_45 h1
  have h5 := pairs_length h1
  have h6 : n.toNat * (n.toNat - 1) ≤ 8 * 7 := Nat.mul_le_mul (by omega) (by omega)
  refine ⟨h4.1, h2, h3, by omega, fun c hc => ?_, Nat.pow_lt_pow_right (by omega) (by omega)⟩
  obtain ⟨g1, g2, g3⟩ := isCallB_bd (arePairs_all h1 c hc)
  exact ⟨g1, g2, by omega⟩
theorem roAsked_ev (n : Int) (cs : List S54) (a : Int) (h : cs.length ≤ 1048576) : Ev (fun k => spec_roAsked.f k n cs a) (askB n cs a) := by
  unfold spec_roAsked.f
  refine Ev.bind (roPairs_ev n cs h) ?_
  cases hp : arePairsB n cs with
  | false =>
    have e : askB n cs a = false := by rw [askB, hp, Bool.false_and]
    rw [e]
    simpa using ev_now _
  | true =>
    have h4 := pairs_45 hp
    have e : askB n cs a = decide (0 ≤ a ∧ a < n) := by rw [askB, hp, Bool.true_and]
    rw [e]
    simp only [if_true, l1In_friend n a h4.1 h4.2.1, Option.bind_some]
    exact ev_now _
theorem spec_ev (n : Int) (cs : List S54) (a : Int) (h : cs.length ≤ 1048576) : Ev (fun k => spec_SpreadRounds.f k n cs a) (resP n cs a) := by
  unfold spec_SpreadRounds.f
  refine Ev.bind (roAsked_ev n cs a h) ?_
  cases hk : askB n cs a with
  | false =>
    have e : resP n cs a = (0, false) := by rw [resP, if_neg (by rw [hk]; simp)]
    rw [e]
    simp only [Bool.false_eq_true, if_false]
    exact Ev.step (fun k => by simp only [spec_SpreadRounds.j0, if_true] <;> exact rfl) (ev_now _)
  | true =>
    simp only [if_true]
    by_cases hn : n ≤ 8
    · obtain ⟨h1, h2, h3, h4, h5, h6⟩ := ask_ok hk hn
      have hn' : n.toNat ≤ 8 := by omega
      have e : resP n cs a = if valN n.toNat cs (2 ^ a.toNat) < 0 then (0, false) else (valN n.toNat cs (2 ^ a.toNat), true) := by rw [resP, if_pos ⟨hk, hn⟩]
      have ed : decide (n > 8) = false := by rw [decide_eq_false_iff_not]; omega
      rw [e, ed]
      refine Ev.step (fun k => by simp only [spec_SpreadRounds.j0, Bool.false_eq_true, if_false] <;> exact rfl) ?_
      have hr := reach_ev hn' h5 h4
      rw [show ((n.toNat : Nat) : Int) = n by omega] at hr
      refine Ev.bind hr ?_
      have es := shl_i64_at a h2 (by omega)
      have q2 : (0 : Int) ≤ ((2 ^ a.toNat : Nat) : Int) := Int.natCast_nonneg _
      have q3 : ((2 ^ a.toNat : Nat) : Int) < ((((List.range (2 ^ n.toNat)).map (valN n.toNat cs)).length : Nat) : Int) := by
        rw [List.length_map, List.length_range]
        exact Int.ofNat_lt.2 h6
      have er : rd ((List.range (2 ^ n.toNat)).map (valN n.toNat cs)) ((2 ^ a.toNat : Nat) : Int) = valN n.toNat cs (2 ^ a.toNat) := by
        show ((List.range (2 ^ n.toNat)).map (valN n.toNat cs)).getD (2 ^ a.toNat) 0 = _
        rw [getD_range_map _ _ _ _ h6]
      simp only [if_pos h2, es, if_pos q2, if_pos q3, er]
      by_cases hv : valN n.toNat cs (2 ^ a.toNat) < 0
      · simp only [if_pos hv]
        exact ev_now _
      · simp only [if_neg hv]
        exact ev_now _
    · have e : resP n cs a = (0, false) := by rw [resP, if_neg (fun hh => hn hh.2)]
      have ed : decide (n > 8) = true := by rw [decide_eq_true_eq]; omega
      rw [e, ed]
      exact Ev.step (fun k => by simp only [spec_SpreadRounds.j0, if_true] <;> exact rfl) (ev_now _)
theorem impl_ev (n : Int) (cs : List S54) (a : Int) (h : cs.length ≤ 1048576) : Ev (fun k => impl_SpreadRounds.f k n cs a) (resP n cs a) := by
  unfold impl_SpreadRounds.f impl_isSpread.f
  by_cases hn : n ≤ 8
  · simp only [if_pos hn]
    refine Ev.bind (Ev.bind (arePairs_ev n cs h) (ev_now _)) ?_
    cases hp : arePairsB n cs with
    | false =>
      have e : resP n cs a = (0, false) := by rw [resP, if_neg (by rw [askB, hp]; simp)]
      rw [e]
      simpa using ev_now _
    | true =>
      have h4 := pairs_45 hp
      simp only [if_true, isFriend_f n a h4.1 h4.2.1, Option.bind_some]
      by_cases ha : 0 ≤ a ∧ a < n
      · have hk : askB n cs a = true := by rw [askB, hp, decide_eq_true ha]; rfl
        obtain ⟨h1, h2, h3, h4', h5, h6⟩ := ask_ok hk hn
        have hn' : n.toNat ≤ 8 := by omega
        have e : resP n cs a = if valN n.toNat cs (2 ^ a.toNat) < 0 then (0, false) else (valN n.toNat cs (2 ^ a.toNat), true) := by rw [resP, if_pos ⟨hk, hn⟩]
        have q : 0 ≤ a ∧ a ≤ 16 := by omega
        have es := shl_u16_at a h2 (by omega)
        obtain ⟨m', hM, hx, hE⟩ := left_ev hn' h5 h4' (2 ^ n.toNat) (2 ^ a.toNat) [] h6 (Nat.sub_le _ _) (mok_nil _ _)
        rw [show ((n.toNat : Nat) : Int) = n by omega] at hE
        rw [e]
        simp only [decide_eq_true ha, if_true, if_pos q, es]
        refine Ev.bind hE ?_
        by_cases hv : valN n.toNat cs (2 ^ a.toNat) < 0
        · have e1 : mx (valN n.toNat cs (2 ^ a.toNat)) 0 = 0 := by unfold mx; rw [if_pos hv]
          have e2 : decide (0 ≤ valN n.toNat cs (2 ^ a.toNat)) = false := by rw [decide_eq_false_iff_not]; omega
          simp only [e1, e2, if_pos hv]
          exact ev_now _
        · have e1 : mx (valN n.toNat cs (2 ^ a.toNat)) 0 = valN n.toNat cs (2 ^ a.toNat) := by unfold mx; rw [if_neg hv]
          have e2 : decide (0 ≤ valN n.toNat cs (2 ^ a.toNat)) = true := by rw [decide_eq_true_eq]; omega
          simp only [e1, e2, if_neg hv]
          exact ev_now _
      · have e : resP n cs a = (0, false) := by rw [resP, if_neg (by rw [askB, decide_eq_false ha]; simp)]
        rw [e]
        simp only [decide_eq_false ha, Bool.false_eq_true, if_false]
        exact ev_now _
  · have e : resP n cs a = (0, false) := by rw [resP, if_neg (fun hh => hn hh.2)]
    rw [e]
    simp only [if_neg hn, Option.bind_some, Bool.false_eq_true, if_false]
    exact ev_now _
theorem FnExactSpreadRounds : ∀ (a0 : Int) (l1 : (List S63)) (a2 : Int), (Lit.int .i64 a0).wf = true → l1.length ≤ 9223372036854775807 → (Lit.int .i64 a2).wf = true → ∃ k, laws_FnExactSpreadRounds.f k a0 l1 a2 = some true := by
  intro a0 l1 a2 w0 hl1 w2
  apply Ev.rounds
  unfold laws_FnExactSpreadRounds.f
  by_cases h1 : l1.length ≤ 1048576
  · simp only [szCallS_small l1 h1, Option.bind_some]
    have h0 : ¬ (1048576 - (l1.length : Int)) < 0 := by omega
    simp only [if_neg h0]
    have g1 : (toCalls l1).length ≤ 1048576 := by rw [toCalls_length]; exact h1
    refine Ev.bind (toCallS_ev l1 h1) ?_
    refine Ev.bind (spec_ev a0 (toCalls l1) a2 g1) ?_
    refine Ev.bind (toCallS_ev l1 h1) ?_
    refine Ev.bind (impl_ev a0 (toCalls l1) a2 g1) ?_
    simp only [bne_self_eq_false, Bool.false_eq_true, if_false, if_true]
    refine Ev.step (fun k => by simp only [laws_FnExactSpreadRounds.j0, Bool.false_eq_true, if_false] <;> exact rfl) ?_
    refine Ev.bind (toCallS_ev l1 h1) ?_
    refine Ev.bind (eqCallS_ev _ g1) ?_
    simp only [if_true]
    exact ev_now _
  · simp only [szCallS_great l1 h1 hl1, Option.bind_some]
    exact ev_now _

end Go.Proofs.Ytgcpbaipdpchfaa.Pure
