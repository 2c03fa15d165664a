/- The pure side of FnExactDistanceInNet: program and reference agree at every argument. No condition beside what an argument is. -/
import Derived.Test.YtelhjfalkhmhkaaPFnExactDistanceInNetx19
import Derived.Test.YtelhjfalkhmhkaaPBase
namespace Go.Proofs.Ytelhjfalkhmhkaa.Pure
open Go.RowKit Go.Proofs.Ytelhjfalkhmhkaa.PFnExactDistanceInNet Go.Proofs.YtelhjfalkhmhkaaW.PrintWords Go.Proofs.YtelhjfalkhmhkaaW.PrintLast Go.Proofs.YtelhjfalkhmhkaaW.PrintMore Go.Proofs.Ytelhjfalkhmhkaa.PB
set_option linter.unusedSimpArgs false
set_option linter.unusedVariables false
/-! calls: read, compared, marked -/
def toCalls (l : List S71) : List S64 := l.map fun c => ⟨c.f0, c.f1⟩
theorem toCalls_length (l : List S71) : (toCalls l).length = l.length := by simp [toCalls]

theorem szCallS_small (l : List S71) (h : l.length ≤ 1048576) : laws_szCallS.f l 1048576 = some (1048576 - (l.length : Int)) := by
  unfold laws_szCallS.f
  rw [w64 (by omega) (by omega), if_neg (by omega)]
theorem szCallS_great (l : List S71) (h : ¬ l.length ≤ 1048576) (h2 : l.length ≤ 9223372036854775807) : laws_szCallS.f l 1048576 = some (-1) := by
  unfold laws_szCallS.f
  rw [w64 (by omega) (by omega), if_pos (by omega)]

theorem toCallS_l0 (l : List S71) (h : l.length ≤ 1048576) : ∀ (d : Nat) (i : Int) (acc : List S64), 0 ≤ i → i + d = l.length → acc.length = l.length →
    (∀ j : Nat, (j : Int) < i → acc.getD j z64 = (toCalls l).getD j z64) → Ev (fun k => laws_toCallS.l0 k l acc i) (toCalls l) := by
  intro d
  induction d with
  | zero =>
    intro i acc h0 hi hl hacc
    refine ev_step (f := fun _ => some acc) (fun k => ?_) ?_
    · simp only [laws_toCallS.l0]; rw [if_neg (by omega)]
    · have : acc = toCalls l := ext_getD z64 (by rw [hl, toCalls_length]) (fun j hj => hacc j (by omega))
      rw [this]; exact ev_now _
  | succ d ih =>
    intro i acc h0 hi hl hacc
    refine ev_step (f := fun k => laws_toCallS.l0 k l (acc.set i.toNat ⟨(l.getD i.toNat z71).f0, (l.getD i.toNat z71).f1⟩) (i + 1)) (fun k => ?_) ?_
    · simp only [laws_toCallS.l0, laws_toCall.f, rd_T71, Option.bind_some]
      rw [if_pos (by omega), if_pos h0, if_pos (by omega), w64 (by omega) (by omega)]
    · refine ih (i + 1) _ (by omega) (by omega) (by simpa using hl) (fun j hj => ?_)
      rw [getD_set _ _ _ _ _ (by omega)]
      split
      · rename_i e
        subst e
        rw [toCalls, getD_map (fun c : S71 => (⟨c.f0, c.f1⟩ : S64)) l i.toNat z71 z64 (by omega)]
      · exact hacc j (by omega)
theorem toCallS_ev (l : List S71) (h : l.length ≤ 1048576) : Ev (fun k => laws_toCallS.f k l) (toCalls l) := by
  unfold laws_toCallS.f
  have h1 : (0 : Int) ≤ (l.length : Int) := by omega
  have h2 : ((l.length : Int)).toNat ≤ 17592186044416 := by omega
  simp only [if_pos h1, if_pos h2]
  exact toCallS_l0 l h l.length 0 _ (by omega) (by omega) (by simp) (fun j hj => by omega)

theorem eqCallS_l0 (a : List S64) (h : a.length ≤ 1048576) : ∀ (d : Nat) (i : Int), 0 ≤ i → i + d = a.length → Ev (fun k => laws_eqCallS.l0 k a a i) true := by
  intro d
  induction d with
  | zero =>
    intro i h0 hi
    refine ev_step (f := fun _ => some true) (fun k => ?_) (ev_now _)
    simp only [laws_eqCallS.l0]; rw [if_neg (by omega)]
  | succ d ih =>
    intro i h0 hi
    refine ev_step (f := fun k => laws_eqCallS.l0 k a a (i + 1)) (fun k => ?_) (ih _ (by omega) (by omega))
    simp only [laws_eqCallS.l0, laws_eqCall.f, if_true, Option.bind_some]
    rw [if_pos (by omega), if_pos h0, if_pos (by omega), w64 (by omega) (by omega)]
theorem eqCallS_ev (a : List S64) (h : a.length ≤ 1048576) : Ev (fun k => laws_eqCallS.f k a a) true := by
  unfold laws_eqCallS.f
  simp only [if_true]
  exact eqCallS_l0 a h a.length 0 (by omega) (by omega)

def isCallB (n a b : Int) : Bool := decide (0 ≤ a) && (decide (a < b) && decide (b < n))
theorem isCall_f (n a b : Int) : impl_isCall.f n a b = some (isCallB n a b) := by
  unfold impl_isCall.f isCallB
  by_cases h1 : 0 ≤ a <;> by_cases h2 : a < b <;> by_cases h3 : b < n <;> simp [h1, h2, h3]

theorem caCall_f (n a b : Int) (h1 : 1 ≤ n) (h2 : n ≤ 10) : spec_caCall.f n a b = some (isCallB n a b) := by
  unfold spec_caCall.f spec_l1In.f isCallB
  rw [w64 (by omega) (by omega)]
  by_cases g1 : 0 ≤ a
  · by_cases g2 : a ≤ n - 1
    · rw [w64 (by omega) (by omega)]
      by_cases g3 : a + 1 ≤ b <;> by_cases g4 : b ≤ n - 1
      · have e1 : a < b := by omega
        have e2 : b < n := by omega
        simp [g1, g2, g3, g4, e1, e2]
      · have e1 : a < b := by omega
        have e2 : ¬ b < n := by omega
        simp [g1, g2, g3, g4, e1, e2]
      · have e1 : ¬ a < b := by omega
        simp [g1, g2, g3, e1]
      · have e1 : ¬ a < b := by omega
        simp [g1, g2, g3, e1]
    · by_cases g3 : a < b
      · have e2 : ¬ b < n := by omega
        simp [g1, g2, e2]
      · simp [g1, g2, g3]
  · simp [g1]

/-! networks: strictly increasing lists of calls -/
theorem isCallB_bd {n a b : Int} (h : isCallB n a b = true) : 0 ≤ a ∧ a < b ∧ b < n := by simpa [isCallB] using h
def lessB (c d : S64) : Bool := decide (c.f0 < d.f0) || (decide (c.f0 = d.f0) && decide (c.f1 < d.f1))
def pairsB (n : Int) : Option S64 → List S64 → Bool
  | _, [] => true
  | none, c :: cs => isCallB n c.f0 c.f1 && pairsB n (some c) cs
  | some p, c :: cs => isCallB n c.f0 c.f1 && (lessB p c && pairsB n (some c) cs)
def friendsB (n : Int) : Bool := decide (1 ≤ n) && decide (n ≤ 10)
def arePairsB (n : Int) (l : List S64) : Bool := friendsB n && pairsB n none l
def codeP (c : S64) : Nat := 10 * c.f0.toNat + c.f1.toNat
def validN (n : Nat) (x : Nat) : Bool := decide (x / 10 < x % 10) && decide (x % 10 < n)
theorem valid_count : ∀ n : Fin 11, (List.range 100).countP (validN n.val) = n.val * (n.val - 1) / 2 := by decide +kernel
theorem valid_code {n : Int} (hn : n ≤ 10) {c : S64} (h : isCallB n c.f0 c.f1 = true) : validN n.toNat (codeP c) = true ∧ codeP c < 100 := by
  obtain ⟨h1, h2, h3⟩ := isCallB_bd h
  have e1 : codeP c / 10 = c.f0.toNat := by unfold codeP; omega
  have e2 : codeP c % 10 = c.f1.toNat := by unfold codeP; omega
  refine ⟨?_, by unfold codeP; omega⟩
  simp only [validN, e1, e2, Bool.and_eq_true, decide_eq_true_eq]
  omega
theorem less_code {n : Int} (hn : n ≤ 10) {c d : S64} (hc : isCallB n c.f0 c.f1 = true) (hd : isCallB n d.f0 d.f1 = true) (h : lessB c d = true) : codeP c < codeP d := by
  obtain ⟨h1, h2, h3⟩ := isCallB_bd hc
  obtain ⟨g1, g2, g3⟩ := isCallB_bd hd
  simp [lessB] at h
  unfold codeP
  omega
theorem range_count (p : Nat → Bool) : ∀ (m s x : Nat), s ≤ x → x < s + m → p x = true → 1 + (List.range' (x + 1) (s + m - (x + 1))).countP p ≤ (List.range' s m).countP p
  | 0, s, x, h1, h2, _ => by omega
  | m + 1, s, x, h1, h2, hp => by
    rw [List.range'_succ, List.countP_cons]
    rcases Nat.lt_or_ge s x with h | h
    · have ih := range_count p m (s + 1) x h (by omega) hp
      rw [show s + (m + 1) - (x + 1) = s + 1 + m - (x + 1) by omega]
      omega
    · have e : x = s := by omega
      subst e
      rw [if_pos hp, show x + (m + 1) - (x + 1) = m by omega]
      omega
theorem pairs_le {n : Int} (hn : n ≤ 10) : ∀ (l : List S64) (p : S64) (_ : isCallB n p.f0 p.f1 = true), pairsB n (some p) l = true → l.length ≤ (List.range' (codeP p + 1) (100 - (codeP p + 1))).countP (validN n.toNat)
  | [], p, _, _ => Nat.zero_le _
  | c :: cs, p, hp, h => by
    simp only [pairsB, Bool.and_eq_true] at h
    obtain ⟨h1, h2, h3⟩ := h
    have ih := pairs_le hn cs c h1 h3
    have v := valid_code hn h1
    have vp := valid_code hn hp
    have lt := less_code hn hp h1 h2
    have := range_count (validN n.toNat) (100 - (codeP p + 1)) (codeP p + 1) (codeP c) lt (by omega) v.1
    rw [show codeP p + 1 + (100 - (codeP p + 1)) - (codeP c + 1) = 100 - (codeP c + 1) by omega] at this
    rw [List.length_cons]
    omega
theorem pairs_length {n : Int} {l : List S64} (h : arePairsB n l = true) : l.length ≤ n.toNat * (n.toNat - 1) / 2 := by
  simp only [arePairsB, friendsB, Bool.and_eq_true, decide_eq_true_eq] at h
  obtain ⟨⟨h1, h2⟩, h3⟩ := h
  have hv := valid_count ⟨n.toNat, by omega⟩
  simp only at hv
  rw [← hv, List.range_eq_range']
  cases l with
  | nil => exact Nat.zero_le _
  | cons c cs =>
    simp only [pairsB, Bool.and_eq_true] at h3
    have v := valid_code h2 h3.1
    have := range_count (validN n.toNat) 100 0 (codeP c) (Nat.zero_le _) (by omega) v.1
    have g := pairs_le h2 cs c h3.1 h3.2
    rw [show 0 + 100 - (codeP c + 1) = 100 - (codeP c + 1) by omega] at this
    rw [List.length_cons]
    omega
theorem pairs_45 {n : Int} {l : List S64} (h : arePairsB n l = true) : 1 ≤ n ∧ n ≤ 10 ∧ l.length ≤ 45 := by
  have hl := pairs_length h
  simp only [arePairsB, friendsB, Bool.and_eq_true, decide_eq_true_eq] at h
  obtain ⟨⟨h1, h2⟩, h3⟩ := h
  have : n.toNat * (n.toNat - 1) ≤ 10 * 9 := Nat.mul_le_mul (by omega) (by omega)
  exact ⟨h1, h2, by omega⟩
theorem pairs_all {n : Int} : ∀ (l : List S64) (o : Option S64), pairsB n o l = true → ∀ c ∈ l, isCallB n c.f0 c.f1 = true
  | [], _, _ => by simp
  | c :: cs, o, h => by
    have h' : isCallB n c.f0 c.f1 = true ∧ pairsB n (some c) cs = true := by
      cases o with
      | none => simpa [pairsB] using h
      | some p => simp only [pairsB, Bool.and_eq_true] at h; exact ⟨h.1, h.2.2⟩
    intro d hd
    rcases List.mem_cons.1 hd with rfl | hd
    · exact h'.1
    · exact pairs_all cs _ h'.2 d hd
theorem arePairs_all {n : Int} {l : List S64} (h : arePairsB n l = true) : ∀ c ∈ l, isCallB n c.f0 c.f1 = true := by
  simp only [arePairsB, Bool.and_eq_true] at h
  exact pairs_all l none h.2
def prevP (l : List S64) (i : Nat) : Option S64 := if i = 0 then none else some (l.getD (i - 1) z64)
theorem pairs_step (n : Int) (l : List S64) (i : Nat) (h : i < l.length) : pairsB n (prevP l i) (l.drop i) = (isCallB n (l.getD i z64).f0 (l.getD i z64).f1 && ((i = 0 || lessB (l.getD (i - 1) z64) (l.getD i z64)) && pairsB n (prevP l (i + 1)) (l.drop (i + 1)))) := by
  rw [drop_at l i z64 h]
  have e : prevP l (i + 1) = some (l.getD i z64) := by simp [prevP]
  rw [e]
  unfold prevP
  by_cases hi : i = 0
  · rw [if_pos hi]; simp [pairsB, hi]
  · rw [if_neg hi]; simp [pairsB, hi]
theorem neFriends_f (n : Int) : spec_neFriends.f n = some (friendsB n) := by
  unfold spec_neFriends.f spec_l1In.f friendsB
  by_cases h1 : 1 ≤ n <;> by_cases h2 : n ≤ 10 <;> simp [h1, h2]
theorem areFriendsN_f (n : Int) : impl_areFriends.f n = some (friendsB n) := by
  unfold impl_areFriends.f impl_within.f friendsB
  by_cases h1 : 1 ≤ n <;> by_cases h2 : n ≤ 10 <;> simp [h1, h2]
theorem neLess_f (c d : S64) : spec_neLess.f c.f0 c.f1 d.f0 d.f1 = some (lessB c d) := by
  unfold spec_neLess.f lessB
  by_cases h1 : c.f0 < d.f0
  · simp [h1]
  · by_cases h2 : c.f0 = d.f0 <;> simp [h1, h2]
theorem neGood_l0 (n : Int) (l : List S64) (h : l.length ≤ 1048576) (h1 : 1 ≤ n) (h2 : n ≤ 10) : ∀ (d : Nat) (i : Nat), i + d = l.length →
    Ev (fun k => spec_neGood.l0 k n l l (l.length : Int) (i : Int)) (pairsB n (prevP l i) (l.drop i)) := by
  intro d
  induction d with
  | zero =>
    intro i hi
    refine ev_step (f := fun _ => some true) (fun k => ?_) ?_
    · simp only [spec_neGood.l0]; rw [if_neg (by omega)]
    · rw [List.drop_eq_nil_of_le (by omega)]; exact ev_now _
  | succ d ih =>
    intro i hi
    rw [pairs_step n l i (by omega)]
    have e : rd_T64 l (i : Int) = l.getD i z64 := rfl
    cases hq : isCallB n (l.getD i z64).f0 (l.getD i z64).f1 with
    | false =>
      refine ev_step (f := fun _ => some false) (fun k => ?_) (ev_now _)
      simp only [spec_neGood.l0, e, caCall_f n _ _ h1 h2, Option.bind_some, hq]
      rw [if_pos (by omega), if_pos (by omega), if_pos (by omega), if_neg (by simp)]
    | true =>
      rw [Bool.true_and]
      by_cases hi0 : i = 0
      · refine ev_step (f := fun k => spec_neGood.l0 k n l l (l.length : Int) ((i + 1 : Nat) : Int)) (fun k => ?_) ?_
        · simp only [spec_neGood.l0, e, caCall_f n _ _ h1 h2, Option.bind_some, hq, if_true]
          rw [if_pos (by omega), if_pos (by omega), if_pos (by omega), if_neg (by omega), w64 (by omega) (by omega)]
          rfl
        · simpa [hi0] using ih (i + 1) (by omega)
      · have e2 : wrap64 ((i : Int) - 1) = ((i - 1 : Nat) : Int) := by rw [w64 (by omega) (by omega)]; omega
        have e3 : rd_T64 l ((i - 1 : Nat) : Int) = l.getD (i - 1) z64 := rfl
        cases hl : lessB (l.getD (i - 1) z64) (l.getD i z64) with
        | true =>
          refine ev_step (f := fun k => spec_neGood.l0 k n l l (l.length : Int) ((i + 1 : Nat) : Int)) (fun k => ?_) ?_
          · simp only [spec_neGood.l0, e, caCall_f n _ _ h1 h2, Option.bind_some, hq, if_true, e2, e3, neLess_f, hl]
            rw [if_pos (by omega), if_pos (by omega), if_pos (by omega), if_pos (by omega), if_pos (by omega), if_pos (by omega), w64 (by omega) (by omega)]
            rfl
          · simpa [hi0] using ih (i + 1) (by omega)
        | false =>
          refine ev_step (f := fun _ => some false) (fun k => ?_) ?_
          · simp only [spec_neGood.l0, e, caCall_f n _ _ h1 h2, Option.bind_some, hq, if_true, e2, e3, neLess_f, hl]
            rw [if_pos (by omega), if_pos (by omega), if_pos (by omega), if_pos (by omega), if_pos (by omega), if_pos (by omega), if_neg (by simp)]
          · simpa [hi0] using ev_now _
theorem most_pairs : ∀ n : Fin 11, wrap64 (Int.tdiv (wrap64 ((n.val : Int) * (wrap64 ((n.val : Int) - 1)))) 2) = ((n.val * (n.val - 1) / 2 : Nat) : Int) := by decide +kernel
theorem neGood_ev (n : Int) (l : List S64) (h : l.length ≤ 1048576) : Ev (fun k => spec_neGood.f k n l) (arePairsB n l) := by
  unfold spec_neGood.f
  simp only [neFriends_f, Option.bind_some]
  cases hf : friendsB n with
  | false =>
    have e : arePairsB n l = false := by simp [arePairsB, hf]
    rw [e]
    exact ev_step (f := fun _ => some false) (fun k => by simp [spec_neGood.j0]) (ev_now _)
  | true =>
    have hf' : 1 ≤ n ∧ n ≤ 10 := by simpa [friendsB] using hf
    have hm := most_pairs ⟨n.toNat, by omega⟩
    simp only [show ((n.toNat : Nat) : Int) = n by omega] at hm
    simp only [if_true, hm]
    by_cases hl : (l.length : Int) > ((n.toNat * (n.toNat - 1) / 2 : Nat) : Int)
    · have e : arePairsB n l = false := by
        rw [Bool.eq_false_iff]; intro hh
        have := pairs_length hh
        omega
      rw [e, decide_eq_true hl]
      exact ev_step (f := fun _ => some false) (fun k => by simp [spec_neGood.j0]) (ev_now _)
    · rw [decide_eq_false hl]
      have e : arePairsB n l = pairsB n none l := by simp [arePairsB, hf]
      rw [e]
      refine ev_step (f := fun k => spec_neGood.l0 k n l l (l.length : Int) 0) (fun k => by simp [spec_neGood.j0]) ?_
      simpa [prevP] using neGood_l0 n l h hf'.1 hf'.2 l.length 0 (by omega)
theorem compare_f (a b : Int) : cmp_Compare_int.f a b = some (if a < b then -1 else if a > b then 1 else 0) := by
  unfold cmp_Compare_int.f cmp_isNaN_int.f
  simp only [Option.bind_some, bne_self_eq_false, Bool.false_eq_true, if_false]
  split
  · rfl
  · split <;> rfl
def cmpP (c d : S64) : Int := if c.f0 < d.f0 then -1 else if c.f0 > d.f0 then 1 else if c.f1 < d.f1 then -1 else if c.f1 > d.f1 then 1 else 0
theorem or2_f (x y : Int) (k : Nat) : cmp_Or_int.f (k + 3) [x, y] = some (if x = 0 then y else x) := by
  unfold cmp_Or_int.f
  by_cases hx : x = 0
  · by_cases hy : y = 0
    · simp [cmp_Or_int.l0, rd, hx, hy, wrap64]
    · simp [cmp_Or_int.l0, rd, hx, hy, wrap64]
  · simp [cmp_Or_int.l0, rd, hx, wrap64]
theorem compareCalls_ev (c d : S64) : Ev (fun k => impl_compareCalls.f k c.f0 c.f1 d.f0 d.f1) (cmpP c d) := by
  refine ⟨3, fun k hk => ?_⟩
  obtain ⟨j, rfl⟩ : ∃ j, k = j + 3 := ⟨k - 3, by omega⟩
  unfold impl_compareCalls.f
  simp only [compare_f, Option.bind_some, or2_f]
  congr 1
  unfold cmpP
  by_cases h1 : c.f0 < d.f0
  · simp [h1]
  · by_cases h2 : c.f0 > d.f0
    · simp [h1, h2]
    · simp [h1, h2]
theorem cmpP_less (c d : S64) : (cmpP c d ≥ 0) = (lessB c d = false) := by
  unfold cmpP lessB
  by_cases h1 : c.f0 < d.f0
  · simp [h1]
  · by_cases h2 : c.f0 > d.f0
    · have h3 : ¬ c.f0 = d.f0 := by omega
      simp [h1, h2, h3]
    · have h3 : c.f0 = d.f0 := by omega
      by_cases h4 : c.f1 < d.f1
      · simp [h3, h4]
      · by_cases h5 : c.f1 > d.f1 <;> simp [h3, h4, h5]
theorem arePairs_l0 (n : Int) (l : List S64) (h : l.length ≤ 1048576) : ∀ (d : Nat) (i : Nat), i + d = l.length →
    Ev (fun k => impl_ArePairs.l0 k n l l (l.length : Int) (i : Int)) (friendsB n && pairsB n (prevP l i) (l.drop i)) := by
  intro d
  induction d with
  | zero =>
    intro i hi
    refine ev_step (f := fun _ => some (friendsB n)) (fun k => ?_) ?_
    · simp only [impl_ArePairs.l0, areFriendsN_f, Option.bind_some]; rw [if_neg (by omega)]
    · rw [List.drop_eq_nil_of_le (by omega)]; simpa [pairsB] using ev_now _
  | succ d ih =>
    intro i hi
    rw [pairs_step n l i (by omega)]
    have e : rd_T64 l (i : Int) = l.getD i z64 := rfl
    cases hq : isCallB n (l.getD i z64).f0 (l.getD i z64).f1 with
    | false =>
      refine ev_step (f := fun _ => some false) (fun k => ?_) (by simpa using ev_now _)
      simp only [impl_ArePairs.l0, e, isCall_f, Option.bind_some, hq]
      rw [if_pos (by omega), if_pos (by omega), if_pos (by omega), if_neg (by simp)]
    | true =>
      rw [Bool.true_and]
      by_cases hi0 : i = 0
      · refine ev_step (f := fun k => impl_ArePairs.l0 k n l l (l.length : Int) ((i + 1 : Nat) : Int)) (fun k => ?_) ?_
        · simp only [impl_ArePairs.l0, e, isCall_f, Option.bind_some, hq, if_true]
          rw [if_pos (by omega), if_pos (by omega), if_pos (by omega), if_neg (by omega), w64 (by omega) (by omega)]
          rfl
        · simpa [hi0] using ih (i + 1) (by omega)
      · have e2 : wrap64 ((i : Int) - 1) = ((i - 1 : Nat) : Int) := by rw [w64 (by omega) (by omega)]; omega
        have e3 : rd_T64 l ((i - 1 : Nat) : Int) = l.getD (i - 1) z64 := rfl
        refine ev_step (f := fun k => (impl_compareCalls.f k (l.getD (i - 1) z64).f0 (l.getD (i - 1) z64).f1 (l.getD i z64).f0 (l.getD i z64).f1).bind fun t => if t ≥ 0 then some false else impl_ArePairs.l0 k n l l (l.length : Int) ((i + 1 : Nat) : Int)) (fun k => ?_) ?_
        · simp only [impl_ArePairs.l0, e, isCall_f, Option.bind_some, hq, if_true, e2, e3]
          rw [if_pos (by omega), if_pos (by omega), if_pos (by omega), if_pos (by omega), if_pos (by omega), if_pos (by omega), w64 (by omega) (by omega)]
          rfl
        · refine Ev.bind (compareCalls_ev _ _) ?_
          simp only [cmpP_less]
          cases hl : lessB (l.getD (i - 1) z64) (l.getD i z64) with
          | true => simpa [hi0] using ih (i + 1) (by omega)
          | false => simpa [hi0] using ev_now _
theorem arePairs_ev (n : Int) (l : List S64) (h : l.length ≤ 1048576) : Ev (fun k => impl_ArePairs.f k n l) (arePairsB n l) := by
  unfold impl_ArePairs.f
  have h0 := arePairs_l0 n l h l.length 0 (by omega)
  simpa [prevP, arePairsB] using h0

theorem mn_lt {a b : Int} (h : a < b) : mn a b = a ∧ mx a b = b := by unfold mn mx; constructor <;> split <;> omega
theorem mn_ge {a b : Int} (h : ¬ a < b) : mn a b = b ∧ mx a b = a := by unfold mn mx; constructor <;> split <;> omega
def hasP (l : List S64) (a b : Int) : Bool := l.any (fun c => c.f0 == mn a b && c.f1 == mx a b)
theorem has_self {n : Int} {l : List S64} (h4 : ∀ c ∈ l, isCallB n c.f0 c.f1 = true) (a : Int) : hasP l a a = false := by
  rw [hasP, List.any_eq_false]
  intro c hc
  have := h4 c hc
  simp only [isCallB, Bool.and_eq_true, decide_eq_true_eq] at this
  obtain ⟨e1, e2⟩ := mn_ge (a := a) (b := a) (by omega)
  rw [e1, e2]
  simp only [Bool.and_eq_true, beq_iff_eq, not_and]
  omega
theorem any_at (l : List S64) (p : S64 → Bool) (i : Nat) (h : i < l.length) : (l.drop i).any p = (p (l.getD i z64) || (l.drop (i + 1)).any p) := by
  rw [drop_at l i z64 h, List.any_cons]
theorem caPair_f (a b : Int) : spec_caPair.f a b = some (mn a b, mx a b) := by
  unfold spec_caPair.f spec_l1Least.f spec_l1Most.f
  by_cases h : a < b
  · obtain ⟨e1, e2⟩ := mn_lt h
    by_cases h2 : b < a
    · omega
    · simp [h, h2, e1, e2]
  · obtain ⟨e1, e2⟩ := mn_ge h
    by_cases h2 : b < a
    · simp [h, h2, e1, e2]
    · have : a = b := by omega
      subst this
      simp [e1, e2]
theorem neIs_l0 (l : List S64) (h : l.length ≤ 1048576) (a b : Int) : ∀ (d : Nat) (i : Nat), i + d = l.length →
    Ev (fun k => spec_neIs.l0 k a b l (l.length : Int) (i : Int)) ((l.drop i).any (fun c => c.f0 == mn a b && c.f1 == mx a b)) := by
  intro d
  induction d with
  | zero =>
    intro i hi
    refine ev_step (f := fun _ => some false) (fun k => ?_) ?_
    · simp only [spec_neIs.l0]; rw [if_neg (by omega)]
    · rw [List.drop_eq_nil_of_le (by omega)]; exact ev_now _
  | succ d ih =>
    intro i hi
    rw [any_at l _ i (by omega)]
    cases hq : ((l.getD i z64).f0 == mn a b && (l.getD i z64).f1 == mx a b) with
    | true =>
      refine ev_step (f := fun _ => some true) (fun k => ?_) (by simpa using ev_now _)
      simp only [spec_neIs.l0, caPair_f, Option.bind_some, show rd_T64 l (i : Int) = l.getD i z64 from rfl]
      rw [if_pos (by omega), if_pos (by omega), if_pos (by omega), if_pos hq]
    | false =>
      refine ev_step (f := fun k => spec_neIs.l0 k a b l (l.length : Int) ((i + 1 : Nat) : Int)) (fun k => ?_) (by simpa using ih (i + 1) (by omega))
      simp only [spec_neIs.l0, caPair_f, Option.bind_some, show rd_T64 l (i : Int) = l.getD i z64 from rfl]
      rw [if_pos (by omega), if_pos (by omega), if_pos (by omega), if_neg (by rw [hq]; simp), w64 (by omega) (by omega)]
      rfl
theorem neIs_ev (l : List S64) (h : l.length ≤ 1048576) (a b : Int) : Ev (fun k => spec_neIs.f k l a b) (hasP l a b) := by
  unfold spec_neIs.f
  exact neIs_l0 l h a b l.length 0 (by omega)
theorem index_l0 (l : List S64) (h : l.length ≤ 1048576) (u v : Int) : ∀ (d : Nat) (i : Nat), i + d = l.length →
    ∃ r : Int, Ev (fun k => impl_Call_134.l0 k l (l.length : Int) (i : Int) u v) r ∧ decide (r ≥ 0) = (l.drop i).any (fun c => c.f0 == u && c.f1 == v) := by
  intro d
  induction d with
  | zero =>
    intro i hi
    refine ⟨-1, ev_step (f := fun _ => some (-1)) (fun k => ?_) (ev_now _), ?_⟩
    · simp only [impl_Call_134.l0]; rw [if_neg (by omega)]
    · rw [List.drop_eq_nil_of_le (by omega)]; rfl
  | succ d ih =>
    intro i hi
    rw [any_at l _ i (by omega)]
    cases hq : ((l.getD i z64).f0 == u && (l.getD i z64).f1 == v) with
    | true =>
      refine ⟨(i : Int), ev_step (f := fun _ => some (i : Int)) (fun k => ?_) (ev_now _), ?_⟩
      · simp only [impl_Call_134.l0, show rd_T64 l (i : Int) = l.getD i z64 from rfl]
        have hq' : (u == (l.getD i z64).f0 && v == (l.getD i z64).f1) = true := by rw [← hq]; congr 1 <;> exact Bool.beq_comm
        rw [if_pos (by omega), if_pos (by omega), if_pos (by omega), if_pos hq']
      · simp
    | false =>
      obtain ⟨r, hr, he⟩ := ih (i + 1) (by omega)
      refine ⟨r, ev_step (fun k => ?_) hr, by simpa using he⟩
      simp only [impl_Call_134.l0, show rd_T64 l (i : Int) = l.getD i z64 from rfl]
      have hq' : (u == (l.getD i z64).f0 && v == (l.getD i z64).f1) = false := by rw [← hq]; congr 1 <;> exact Bool.beq_comm
      rw [if_pos (by omega), if_pos (by omega), if_pos (by omega), if_neg (by rw [hq']; simp), w64 (by omega) (by omega)]
      rfl
theorem contains_ev (l : List S64) (h : l.length ≤ 1048576) (u v : Int) : Ev (fun k => impl_Call_124.f k l u v) (l.any (fun c => c.f0 == u && c.f1 == v)) := by
  obtain ⟨r, hr, he⟩ := index_l0 l h u v l.length 0 (by omega)
  rw [List.drop_zero] at he
  rw [← he]
  unfold impl_Call_124.f impl_Call_134.f
  exact Ev.bind hr (ev_now _)
theorem isPair_ev {n : Int} {l : List S64} (h4 : ∀ c ∈ l, isCallB n c.f0 c.f1 = true) (h : l.length ≤ 1048576) (a b : Int) : Ev (fun k => impl_isPair.f k l a b) (hasP l a b) := by
  unfold impl_isPair.f impl_call.f
  by_cases e : a = b
  · subst e
    rw [has_self h4]
    simp only [if_true]
    exact ev_now _
  · simp only [if_neg e, Option.bind_some]
    exact Ev.bind (contains_ev l h _ _) (ev_now _)

/-! distances: both go from friend to friend in the same way -/
def farStep (l : List S64) (k : Nat) (s : List Int × List Int) (i : Nat) : List Int × List Int :=
  if s.1.getD i 0 < 0 ∧ hasP l (s.2.getD k 0) (i : Int) = true then (s.1.set i (s.1.getD (s.2.getD k 0).toNat 0 + 1), s.2 ++ [(i : Int)]) else s
def farRow (l : List S64) (n k : Nat) (s : List Int × List Int) (i : Nat) : List Int × List Int := ((List.range' i (n - i))).foldl (farStep l k) s
def farAll (l : List S64) (n : Nat) : Nat → Nat → List Int × List Int → List Int
  | 0, _, s => s.1
  | d + 1, k, s => if k < s.2.length then farAll l n d (k + 1) (farRow l n k s 0) else s.1
/-- Places that are found are no more than there are friends. -/
structure FarOk (n : Nat) (s : List Int × List Int) : Prop where
  len : s.1.length = n
  mem : ∀ x ∈ s.2, 0 ≤ x ∧ x < (n : Int)
  few : s.2.length + s.1.countP (fun v => decide (v < 0)) ≤ n
  low : ∀ v ∈ s.1, v ≤ (s.2.length : Int) ∧ -1 ≤ v
theorem count_set_nonneg : ∀ (l : List Int) (i : Nat) (x : Int), i < l.length → l.getD i 0 < 0 → 0 ≤ x → (l.set i x).countP (fun v => decide (v < 0)) + 1 = l.countP (fun v => decide (v < 0))
  | [], i, _, h, _, _ => by simp at h
  | y :: l, 0, x, _, hy, hx => by
    have h1 : y < 0 := by simpa using hy
    have h2 : ¬ x < 0 := by omega
    simp [List.countP_cons, h1, h2]
  | y :: l, i + 1, x, h, hy, hx => by
    have := count_set_nonneg l i x (by simpa using h) (by simpa using hy) hx
    simp only [List.set_cons_succ, List.countP_cons]
    omega
theorem farStep_ok {n : Nat} {l : List S64} {k i : Nat} {s : List Int × List Int} (h : FarOk n s) (hk : k < s.2.length) (hi : i < n) (hn : n ≤ 10) : FarOk n (farStep l k s i) ∧ s.2.length ≤ (farStep l k s i).2.length := by
  unfold farStep
  by_cases hq : s.1.getD i 0 < 0 ∧ hasP l (s.2.getD k 0) (i : Int) = true
  · rw [if_pos hq]
    have hm := h.mem (s.2.getD k 0) (by rw [getD_at _ _ _ hk]; exact List.getElem_mem hk)
    have hl := h.low (s.1.getD (s.2.getD k 0).toNat 0) (by rw [getD_at _ _ _ (by rw [h.len]; omega)]; exact List.getElem_mem _)
    have hf := h.few
    have hx : 0 ≤ s.1.getD (s.2.getD k 0).toNat 0 + 1 := by omega
    have hc := count_set_nonneg s.1 i (s.1.getD (s.2.getD k 0).toNat 0 + 1) (by rw [h.len]; exact hi) hq.1 hx
    refine ⟨⟨by rw [List.length_set]; exact h.len, fun x hx2 => ?_, ?_, fun v hv => ?_⟩, by simp⟩
    · rcases List.mem_append.1 hx2 with h3 | h3
      · exact h.mem x h3
      · have : x = (i : Int) := by simpa using h3
        omega
    · simp only [List.length_append, List.length_singleton]
      omega
    · simp only [List.length_append, List.length_singleton]
      rcases List.mem_or_eq_of_mem_set hv with h3 | h3
      · have := h.low v h3; omega
      · omega
  · rw [if_neg hq]
    exact ⟨h, Nat.le_refl _⟩
theorem farRow_cons (l : List S64) (n k : Nat) (s : List Int × List Int) (i : Nat) (h : i < n) : farRow l n k s i = farRow l n k (farStep l k s i) (i + 1) := by
  unfold farRow
  obtain ⟨d, hd⟩ : ∃ d, n - i = d + 1 := ⟨n - i - 1, by omega⟩
  rw [hd, List.range'_succ, List.foldl_cons, show n - (i + 1) = d by omega]
theorem farRow_end (l : List S64) (n k : Nat) (s : List Int × List Int) : farRow l n k s n = s := by
  unfold farRow
  rw [Nat.sub_self]; rfl
theorem farRow_ok {n : Nat} {l : List S64} {k : Nat} (hn : n ≤ 10) : ∀ (d i : Nat) (s : List Int × List Int), i + d = n → FarOk n s → k < s.2.length → FarOk n (farRow l n k s i) ∧ s.2.length ≤ (farRow l n k s i).2.length
  | 0, i, s, hi, h, _ => by
    have e : i = n := by omega
    subst e
    rw [farRow_end]
    exact ⟨h, Nat.le_refl _⟩
  | d + 1, i, s, hi, h, hk => by
    rw [farRow_cons l n k s i (by omega)]
    obtain ⟨h1, h2⟩ := farStep_ok (l := l) h hk (show i < n by omega) hn
    obtain ⟨h3, h4⟩ := farRow_ok (l := l) (k := k) hn d (i + 1) (farStep l k s i) (by omega) h1 (by omega)
    exact ⟨h3, by omega⟩
theorem spec_far_l2 {n : Nat} (hn : n ≤ 10) {l : List S64} (h : l.length ≤ 1048576) (k : Nat) {R : List Int} : ∀ (d i : Nat) (s : List Int × List Int), i + d = n → FarOk n s → k < s.2.length →
    Ev (fun q => spec_neFar.l1 q l (farRow l n k s i).1 (farRow l n k s i).2 ((k : Int) + 1)) R → Ev (fun q => spec_neFar.l2 q l s.1 s.2 (k : Int) (n : Int) (i : Int)) R := by
  intro d
  induction d with
  | zero =>
    intro i s hi hs hk hr
    have e : i = n := by omega
    subst e
    rw [farRow_end] at hr
    have hfew := hs.few
    exact Ev.step (fun q => by simp only [spec_neFar.l2, if_neg (Int.lt_irrefl _), w64 (show -9223372036854775808 ≤ (k : Int) + 1 by omega) (by omega)] <;> exact rfl) hr
  | succ d ih =>
    intro i s hi hs hk hr
    have hi' : i < n := by omega
    rw [farRow_cons l n k s i hi'] at hr
    have hm := hs.mem (s.2.getD k 0) (by rw [getD_at _ _ _ hk]; exact List.getElem_mem hk)
    have hl := hs.low (s.1.getD (s.2.getD k 0).toNat 0) (by rw [getD_at _ _ _ (by rw [hs.len]; omega)]; exact List.getElem_mem _)
    have hfew := hs.few
    have hlen := hs.len
    have q1 : (i : Int) < (n : Int) := by omega
    have q2 : (0 : Int) ≤ (i : Int) := by omega
    have q3 : (i : Int) < (s.1.length : Int) := by omega
    have q4 : (0 : Int) ≤ (k : Int) := by omega
    have q5 : (k : Int) < (s.2.length : Int) := by omega
    have q6 : rd s.2 (k : Int) < (s.1.length : Int) := by show s.2.getD k 0 < _; omega
    have q6' : 0 ≤ rd s.2 (k : Int) := hm.1
    have q7 : s.2.length < 17592186044416 := by omega
    have e1 := w64 (show -9223372036854775808 ≤ (i : Int) + 1 by omega) (by omega)
    have e2 : wrap64 (rd s.1 (rd s.2 (k : Int)) + 1) = s.1.getD (s.2.getD k 0).toNat 0 + 1 := w64 (by show -9223372036854775808 ≤ s.1.getD (s.2.getD k 0).toNat 0 + 1; omega) (by show s.1.getD (s.2.getD k 0).toNat 0 + 1 ≤ _; omega)
    obtain ⟨o1, o2⟩ := farStep_ok (l := l) hs hk hi' hn
    have ih' := ih (i + 1) _ (by omega) o1 (by omega) hr
    unfold farStep at ih'
    by_cases c1 : s.1.getD i 0 < 0
    · have c1' : rd s.1 (i : Int) < 0 := c1
      refine Ev.step (fun q => by simp only [spec_neFar.l2, if_pos q1, if_pos q2, if_pos q3, if_pos c1', if_pos q4, if_pos q5, if_pos q6, if_pos q6', if_pos q7, e1, e2] <;> exact rfl) ?_
      refine Ev.bind (neIs_ev l h _ _) ?_
      by_cases c2 : hasP l (s.2.getD k 0) (i : Int) = true
      · have c2' : hasP l (rd s.2 (k : Int)) (i : Int) = true := c2
        rw [if_pos ⟨c1, c2⟩] at ih'
        simp only [if_pos c2', Int.toNat_natCast]
        exact ih'
      · have c2' : ¬ hasP l (rd s.2 (k : Int)) (i : Int) = true := c2
        rw [if_neg (fun hh => c2 hh.2)] at ih'
        simp only [if_neg c2']
        exact ih'
    · have c1' : ¬ rd s.1 (i : Int) < 0 := c1
      rw [if_neg (fun hh => c1 hh.1)] at ih'
      refine Ev.step (fun q => by simp only [spec_neFar.l2, if_pos q1, if_pos q2, if_pos q3, if_neg c1', e1] <;> exact rfl) ?_
      exact ih'
theorem impl_far_l1 {n : Nat} (hn : n ≤ 10) {l : List S64} (h : l.length ≤ 1048576) (h4 : ∀ c ∈ l, isCallB (n : Int) c.f0 c.f1 = true) (k : Nat) {R : List Int} : ∀ (d i : Nat) (s : List Int × List Int), i + d = n → FarOk n s → k < s.2.length →
    Ev (fun q => impl_distances.l0 q (n : Int) l (farRow l n k s i).1 (farRow l n k s i).2 ((k : Int) + 1)) R → Ev (fun q => impl_distances.l1 q (n : Int) l s.1 s.2 (k : Int) (n : Int) (i : Int)) R := by
  intro d
  induction d with
  | zero =>
    intro i s hi hs hk hr
    have e : i = n := by omega
    subst e
    rw [farRow_end] at hr
    have hfew := hs.few
    exact Ev.step (fun q => by simp only [impl_distances.l1, if_neg (Int.lt_irrefl _), w64 (show -9223372036854775808 ≤ (k : Int) + 1 by omega) (by omega)] <;> exact rfl) hr
  | succ d ih =>
    intro i s hi hs hk hr
    have hi' : i < n := by omega
    rw [farRow_cons l n k s i hi'] at hr
    have hm := hs.mem (s.2.getD k 0) (by rw [getD_at _ _ _ hk]; exact List.getElem_mem hk)
    have hl := hs.low (s.1.getD (s.2.getD k 0).toNat 0) (by rw [getD_at _ _ _ (by rw [hs.len]; omega)]; exact List.getElem_mem _)
    have hfew := hs.few
    have hlen := hs.len
    have q1 : (i : Int) < (n : Int) := by omega
    have q2 : (0 : Int) ≤ (i : Int) := by omega
    have q3 : (i : Int) < (s.1.length : Int) := by omega
    have q4 : (0 : Int) ≤ (k : Int) := by omega
    have q5 : (k : Int) < (s.2.length : Int) := by omega
    have q6 : rd s.2 (k : Int) < (s.1.length : Int) := by show s.2.getD k 0 < _; omega
    have q6' : 0 ≤ rd s.2 (k : Int) := hm.1
    have q7 : s.2.length < 17592186044416 := by omega
    have e1 := w64 (show -9223372036854775808 ≤ (i : Int) + 1 by omega) (by omega)
    have e2 : wrap64 (rd s.1 (rd s.2 (k : Int)) + 1) = s.1.getD (s.2.getD k 0).toNat 0 + 1 := w64 (by show -9223372036854775808 ≤ s.1.getD (s.2.getD k 0).toNat 0 + 1; omega) (by show s.1.getD (s.2.getD k 0).toNat 0 + 1 ≤ _; omega)
    obtain ⟨o1, o2⟩ := farStep_ok (l := l) hs hk hi' hn
    have ih' := ih (i + 1) _ (by omega) o1 (by omega) hr
    unfold farStep at ih'
    by_cases c1 : s.1.getD i 0 < 0
    · have c1' : rd s.1 (i : Int) < 0 := c1
      refine Ev.step (fun q => by simp only [impl_distances.l1, if_pos q1, if_pos q2, if_pos q3, if_pos c1', if_pos q4, if_pos q5, if_pos q6, if_pos q6', if_pos q7, e1, e2] <;> exact rfl) ?_
      refine Ev.bind (isPair_ev h4 h _ _) ?_
      by_cases c2 : hasP l (s.2.getD k 0) (i : Int) = true
      · have c2' : hasP l (rd s.2 (k : Int)) (i : Int) = true := c2
        rw [if_pos ⟨c1, c2⟩] at ih'
        simp only [if_pos c2', Int.toNat_natCast]
        exact ih'
      · have c2' : ¬ hasP l (rd s.2 (k : Int)) (i : Int) = true := c2
        rw [if_neg (fun hh => c2 hh.2)] at ih'
        simp only [if_neg c2']
        exact ih'
    · have c1' : ¬ rd s.1 (i : Int) < 0 := c1
      rw [if_neg (fun hh => c1 hh.1)] at ih'
      refine Ev.step (fun q => by simp only [impl_distances.l1, if_pos q1, if_pos q2, if_pos q3, if_neg c1', e1] <;> exact rfl) ?_
      exact ih'
theorem spec_far_l1 {n : Nat} (hn : n ≤ 10) {l : List S64} (h : l.length ≤ 1048576) : ∀ (d k : Nat) (s : List Int × List Int), FarOk n s → n ≤ k + d → k ≤ s.2.length →
    Ev (fun q => spec_neFar.l1 q l s.1 s.2 (k : Int)) (farAll l n d k s) := by
  intro d
  induction d with
  | zero =>
    intro k s hs hd hk
    have hfew := hs.few
    refine Ev.step (fun q => by simp only [spec_neFar.l1] <;> exact rfl) ?_
    simp only [if_neg (show ¬ (k : Int) < (s.2.length : Int) by omega)]
    exact ev_now _
  | succ d ih =>
    intro k s hs hd hk
    have hlen := hs.len
    rw [farAll]
    by_cases hq : k < s.2.length
    · rw [if_pos hq]
      obtain ⟨o1, o2⟩ := farRow_ok (l := l) (k := k) hn n 0 s (by omega) hs hq
      have := ih (k + 1) _ o1 (by omega) (by omega)
      refine Ev.step (fun q => by simp only [spec_neFar.l1, if_pos (show (k : Int) < (s.2.length : Int) by omega), hlen] <;> exact rfl) ?_
      exact spec_far_l2 hn h k n 0 s (by omega) hs hq this
    · rw [if_neg hq]
      refine Ev.step (fun q => by simp only [spec_neFar.l1, if_neg (show ¬ (k : Int) < (s.2.length : Int) by omega)] <;> exact rfl) (ev_now _)
theorem impl_far_l0 {n : Nat} (hn : n ≤ 10) {l : List S64} (h : l.length ≤ 1048576) (h4 : ∀ c ∈ l, isCallB (n : Int) c.f0 c.f1 = true) : ∀ (d k : Nat) (s : List Int × List Int), FarOk n s → n ≤ k + d → k ≤ s.2.length →
    Ev (fun q => impl_distances.l0 q (n : Int) l s.1 s.2 (k : Int)) (farAll l n d k s) := by
  intro d
  induction d with
  | zero =>
    intro k s hs hd hk
    have hfew := hs.few
    refine Ev.step (fun q => by simp only [impl_distances.l0] <;> exact rfl) ?_
    simp only [if_neg (show ¬ (k : Int) < (s.2.length : Int) by omega)]
    exact ev_now _
  | succ d ih =>
    intro k s hs hd hk
    rw [farAll]
    by_cases hq : k < s.2.length
    · rw [if_pos hq]
      obtain ⟨o1, o2⟩ := farRow_ok (l := l) (k := k) hn n 0 s (by omega) hs hq
      have := ih (k + 1) _ o1 (by omega) (by omega)
      refine Ev.step (fun q => by simp only [impl_distances.l0, if_pos (show (k : Int) < (s.2.length : Int) by omega)] <;> exact rfl) ?_
      exact impl_far_l1 hn h h4 k n 0 s (by omega) hs hq this
    · rw [if_neg hq]
      refine Ev.step (fun q => by simp only [impl_distances.l0, if_neg (show ¬ (k : Int) < (s.2.length : Int) by omega)] <;> exact rfl) (ev_now _)
def farStart (n a : Nat) : List Int × List Int := ((List.replicate n (-1)).set a 0, [(a : Int)])
theorem farStart_ok {n a : Nat} (h : a < n) : FarOk n (farStart n a) := by
  have hc := count_set_nonneg (List.replicate n (-1)) a 0 (by simpa using h) (by rw [List.getD_eq_getElem?_getD, List.getElem?_replicate, if_pos h]; decide) (by omega)
  have hc2 : (List.replicate n (-1 : Int)).countP (fun v => decide (v < 0)) = n := by rw [List.countP_replicate]; simp
  refine ⟨by simp [farStart], fun x hx => ?_, ?_, fun v hv => ?_⟩
  · have : x = (a : Int) := by simpa [farStart] using hx
    omega
  · show 1 + ((List.replicate n (-1 : Int)).set a 0).countP _ ≤ n
    omega
  · show v ≤ 1 ∧ -1 ≤ v
    rcases List.mem_or_eq_of_mem_set hv with h3 | h3
    · have := (List.mem_replicate.1 h3).2; omega
    · omega
def farP (l : List S64) (n a : Nat) : List Int := farAll l n n 0 (farStart n a)
theorem farAll_ok {n : Nat} (hn : n ≤ 10) (l : List S64) : ∀ (d k : Nat) (s : List Int × List Int), FarOk n s → (farAll l n d k s).length = n ∧ ∀ v ∈ farAll l n d k s, -1 ≤ v ∧ v ≤ 10
  | 0, k, s, hs => by
    refine ⟨hs.len, fun v hv => ?_⟩
    have := hs.low v hv
    have := hs.few
    omega
  | d + 1, k, s, hs => by
    rw [farAll]
    by_cases hq : k < s.2.length
    · rw [if_pos hq]
      exact farAll_ok hn l d (k + 1) _ (farRow_ok (l := l) (k := k) hn n 0 s (by omega) hs hq).1
    · rw [if_neg hq]
      refine ⟨hs.len, fun v hv => ?_⟩
      have := hs.low v hv
      have := hs.few
      omega
theorem farP_ok {n a : Nat} (hn : n ≤ 10) (h : a < n) (l : List S64) : (farP l n a).length = n ∧ ∀ v ∈ farP l n a, -1 ≤ v ∧ v ≤ 10 := farAll_ok hn l n 0 _ (farStart_ok h)
theorem minus_step (n i : Nat) (h : i < n) : (List.replicate i (-1 : Int) ++ List.replicate (n - i) 0).set i (-1) = List.replicate (i + 1) (-1) ++ List.replicate (n - (i + 1)) 0 := by
  obtain ⟨m, hm⟩ : ∃ m, n - i = m + 1 := ⟨n - i - 1, by omega⟩
  rw [hm, List.replicate_succ, List.set_append_right _ _ (by simp), List.length_replicate, Nat.sub_self, List.set_cons_zero, List.replicate_succ', List.append_assoc, List.singleton_append, show n - (i + 1) = m by omega]
theorem spec_far_l0 {n : Nat} (hn : n ≤ 10) {l : List S64} (h : l.length ≤ 1048576) (a : Nat) (ha : a < n) : ∀ (d i : Nat), i + d = n →
    Ev (fun q => spec_neFar.l0 q l (a : Int) (List.replicate i (-1) ++ List.replicate (n - i) 0) (n : Int) (i : Int)) (farP l n a) := by
  intro d
  induction d with
  | zero =>
    intro i hi
    have e : i = n := by omega
    subst e
    have e2 : (List.replicate i (-1 : Int) ++ List.replicate (i - i) 0) = List.replicate i (-1) := by simp
    rw [e2]
    have q1 : (0 : Int) ≤ (a : Int) := by omega
    have q2 : (a : Int) < ((List.replicate i (-1 : Int)).length : Int) := by rw [List.length_replicate]; omega
    have := spec_far_l1 hn h i 0 _ (farStart_ok ha) (by omega) (by omega)
    refine Ev.step (fun q => by simp only [spec_neFar.l0, if_neg (Int.lt_irrefl _), if_pos q1, if_pos q2, Int.toNat_natCast] <;> exact rfl) ?_
    exact this
  | succ d ih =>
    intro i hi
    have q1 : (i : Int) < (n : Int) := by omega
    have q2 : (0 : Int) ≤ (i : Int) := by omega
    have q3 : (i : Int) < ((List.replicate i (-1 : Int) ++ List.replicate (n - i) 0).length : Int) := by rw [List.length_append, List.length_replicate, List.length_replicate]; omega
    refine Ev.step (fun q => by simp only [spec_neFar.l0, if_pos q1, if_pos q2, if_pos q3, Int.toNat_natCast, minus_step n i (by omega), w64 (show -9223372036854775808 ≤ (i : Int) + 1 by omega) (by omega)] <;> exact rfl) ?_
    exact ih (i + 1) (by omega)
theorem neFar_ev {n : Nat} (hn : n ≤ 10) {l : List S64} (h : l.length ≤ 1048576) (a : Nat) (ha : a < n) : Ev (fun q => spec_neFar.f q (n : Int) l (a : Int)) (farP l n a) := by
  unfold spec_neFar.f
  have q1 : (0 : Int) ≤ (n : Int) := by omega
  have q2 : n ≤ 35184372088832 := by omega
  simp only [if_pos q1, if_pos q2, Option.bind_some, Int.toNat_natCast, List.length_replicate]
  have := spec_far_l0 hn h a ha n 0 (by omega)
  simpa using this
theorem distances_ev {n : Nat} (hn : n ≤ 10) {l : List S64} (h : l.length ≤ 1048576) (h4 : ∀ c ∈ l, isCallB (n : Int) c.f0 c.f1 = true) (a : Nat) (ha : a < n) : Ev (fun q => impl_distances.f q (n : Int) l (a : Int)) (farP l n a) := by
  unfold impl_distances.f slices_Repeat_int_int.f
  have q1 : ([(-1 : Int)] : List Int).length = 1 ∧ 1 ≤ (n : Int) ∧ (n : Int) ≤ 10 := ⟨rfl, by omega, by omega⟩
  have q2 : (0 : Int) ≤ (a : Int) := by omega
  have q3 : (a : Int) < ((List.replicate n (-1 : Int)).length : Int) := by rw [List.length_replicate]; omega
  simp only [if_pos q1, Option.bind_some, Int.toNat_natCast, show ([(-1 : Int)] : List Int).getD 0 0 = -1 from rfl, if_pos q2, if_pos q3]
  exact impl_far_l0 hn h h4 n 0 _ (farStart_ok ha) (by omega) (by omega)

theorem l1In_friend (n a : Int) (h1 : 1 ≤ n) (h2 : n ≤ 10) : spec_l1In.f a 0 (wrap64 (n - 1)) = some (decide (0 ≤ a ∧ a < n)) := by
  unfold spec_l1In.f
  rw [w64 (by omega) (by omega)]
  by_cases g1 : 0 ≤ a <;> by_cases g2 : a < n
  · have : a ≤ n - 1 := by omega
    simp [g1, g2, this]
  · have : ¬ a ≤ n - 1 := by omega
    simp [g1, g2, this]
  · simp [g1]
  · simp [g1]

theorem isFriend_f (n a : Int) (h1 : 1 ≤ n) (h2 : n ≤ 10) : impl_isFriend.f n a = some (decide (0 ≤ a ∧ a < n)) := by
  unfold impl_isFriend.f impl_within.f
  rw [w64 (by omega) (by omega)]
  by_cases g1 : 0 ≤ a <;> by_cases g2 : a < n
  · have : a ≤ n - 1 := by omega
    simp [g1, g2, this]
  · have : ¬ a ≤ n - 1 := by omega
    simp [g1, g2, this]
  · simp [g1]
  · simp [g1]

def resP (n : Int) (cs : List S64) (a b : Int) : Int × Bool := if arePairsB n cs = true then (if 0 ≤ a ∧ a < n then (if 0 ≤ b ∧ b < n then (mx ((farP cs n.toNat a.toNat).getD b.toNat 0) 0, decide ((farP cs n.toNat a.toNat).getD b.toNat 0 ≥ 0)) else (0, false)) else (0, false)) else (0, false)
theorem mx_0 (x : Int) (h : x < 0) : mx x 0 = 0 := by unfold mx; split <;> omega
theorem mx_1 (x : Int) (h : ¬ x < 0) : mx x 0 = x := by unfold mx; split <;> omega
theorem spec_ev (n : Int) (cs : List S64) (a b : Int) (h : cs.length ≤ 1048576) : Ev (fun k => spec_DistanceInNet.f k n cs a b) (resP n cs a b) := by
  unfold spec_DistanceInNet.f resP
  refine Ev.bind (neGood_ev n cs h) ?_
  cases hg : arePairsB n cs with
  | false => simpa using Ev.step (fun k => by simp only [spec_DistanceInNet.j0, if_true] <;> exact rfl) (ev_now _)
  | true =>
    obtain ⟨h1, h2, h3⟩ := pairs_45 hg
    simp only [if_true, l1In_friend n _ (by omega) h2, Option.bind_some]
    by_cases ha : 0 ≤ a ∧ a < n
    · simp only [ha, and_self, decide_true, if_true]
      by_cases hb : 0 ≤ b ∧ b < n
      · simp only [hb, and_self, decide_true, if_true, Bool.not_true]
        obtain ⟨m, rfl⟩ : ∃ m : Nat, n = (m : Int) := ⟨n.toNat, by omega⟩
        obtain ⟨x, rfl⟩ : ∃ x : Nat, a = (x : Int) := ⟨a.toNat, by omega⟩
        simp only [Int.toNat_natCast]
        have hf := neFar_ev (n := m) (by omega) h x (by omega)
        have hl := (farP_ok (n := m) (a := x) (by omega) (by omega) cs).1
        have q1 : b < ((farP cs m x).length : Int) := by omega
        refine Ev.step (fun k => by simp only [spec_DistanceInNet.j0, Bool.false_eq_true, if_false] <;> exact rfl) (Ev.bind hf ?_)
        simp only [if_pos hb.1, if_pos q1]
        by_cases hx : (farP cs m x).getD b.toNat 0 < 0
        · have hx' : rd (farP cs m x) b < 0 := hx
          have hx2 : ¬ (farP cs m x).getD b.toNat 0 ≥ 0 := by omega
          simp only [if_pos hx', mx_0 _ hx, decide_eq_false hx2]
          exact ev_now _
        · have hx' : ¬ rd (farP cs m x) b < 0 := hx
          have hx2 : (farP cs m x).getD b.toNat 0 ≥ 0 := by omega
          simp only [if_neg hx', mx_1 _ hx, decide_eq_true hx2]
          exact ev_now _
      · simp only [if_neg hb, decide_eq_false hb, Bool.not_false]
        exact Ev.step (fun k => by simp only [spec_DistanceInNet.j0, if_true] <;> exact rfl) (ev_now _)
    · simp only [if_neg ha, decide_eq_false ha, Bool.false_eq_true, if_false]
      exact Ev.step (fun k => by simp only [spec_DistanceInNet.j0, if_true] <;> exact rfl) (ev_now _)
theorem impl_ev (n : Int) (cs : List S64) (a b : Int) (h : cs.length ≤ 1048576) : Ev (fun k => impl_DistanceInNet.f k n cs a b) (resP n cs a b) := by
  unfold impl_DistanceInNet.f resP
  refine Ev.bind (arePairs_ev n cs h) ?_
  cases hg : arePairsB n cs with
  | false => simpa using ev_now _
  | true =>
    obtain ⟨h1, h2, h3⟩ := pairs_45 hg
    have h4 := arePairs_all hg
    simp only [if_true, isFriend_f n _ (by omega) h2, Option.bind_some]
    by_cases ha : 0 ≤ a ∧ a < n
    · simp only [ha, and_self, decide_true, if_true]
      by_cases hb : 0 ≤ b ∧ b < n
      · simp only [hb, and_self, decide_true, if_true]
        obtain ⟨m, rfl⟩ : ∃ m : Nat, n = (m : Int) := ⟨n.toNat, by omega⟩
        obtain ⟨x, rfl⟩ : ∃ x : Nat, a = (x : Int) := ⟨a.toNat, by omega⟩
        simp only [Int.toNat_natCast]
        have hf := distances_ev (n := m) (by omega) h h4 x (by omega)
        have hl := (farP_ok (n := m) (a := x) (by omega) (by omega) cs).1
        have q1 : b < ((farP cs m x).length : Int) := by omega
        refine Ev.bind hf ?_
        simp only [if_pos hb.1, if_pos q1]
        exact ev_now _
      · simp only [if_neg hb, decide_eq_false hb, Bool.false_eq_true, if_false]
        exact ev_now _
    · simp only [if_neg ha, decide_eq_false ha, Bool.false_eq_true, if_false]
      exact ev_now _
theorem FnExactDistanceInNet : ∀ (a0 : Int) (l1 : (List S71)) (a2 : Int) (a3 : Int), (Lit.int .i64 a0).wf = true → l1.length ≤ 9223372036854775807 → (Lit.int .i64 a2).wf = true → (Lit.int .i64 a3).wf = true → ∃ k, laws_FnExactDistanceInNet.f k a0 l1 a2 a3 = some true := by
  intro a0 l1 a2 a3 w0 hl1 w2 w3
  apply Ev.rounds
  unfold laws_FnExactDistanceInNet.f
  by_cases h1 : l1.length ≤ 1048576
  · simp only [szCallS_small l1 h1, Option.bind_some]
    have h0 : ¬ (1048576 - (l1.length : Int)) < 0 := by omega
    simp only [if_neg h0]
    have g1 : (toCalls l1).length ≤ 1048576 := by rw [toCalls_length]; exact h1
    refine Ev.bind (toCallS_ev l1 h1) ?_
    refine Ev.bind (spec_ev a0 (toCalls l1) a2 a3 g1) ?_
    refine Ev.bind (toCallS_ev l1 h1) ?_
    refine Ev.bind (impl_ev a0 (toCalls l1) a2 a3 g1) ?_
    simp only [bne_self_eq_false, Bool.false_eq_true, if_false, if_true]
    refine Ev.step (fun k => by simp only [laws_FnExactDistanceInNet.j0, Bool.false_eq_true, if_false] <;> exact rfl) ?_
    refine Ev.bind (toCallS_ev l1 h1) ?_
    refine Ev.bind (eqCallS_ev _ g1) ?_
    simp only [if_true]
    exact ev_now _
  · simp only [szCallS_great l1 h1 hl1, Option.bind_some]
    exact ev_now _

end Go.Proofs.Ytelhjfalkhmhkaa.Pure
