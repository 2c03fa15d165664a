/- The pure side of FnExactDropPair: program and reference agree at every argument. No condition beside what an argument is. -/
import Derived.Test.YtdlmopgblcakaaaPFnExactDropPairx14
import Derived.Test.YtdlmopgblcakaaaPBase
namespace Go.Proofs.Ytdlmopgblcakaaa.Pure
open Go.RowKit Go.Proofs.Ytdlmopgblcakaaa.PFnExactDropPair Go.Proofs.YtdlmopgblcakaaaW.PrintWords Go.Proofs.YtdlmopgblcakaaaW.PrintLast Go.Proofs.YtdlmopgblcakaaaW.PrintMore Go.Proofs.Ytdlmopgblcakaaa.PB
set_option linter.unusedSimpArgs false
set_option linter.unusedVariables false
/-! calls: read, compared, marked -/
def toCalls (l : List S56) : List S54 := l.map fun c => ⟨c.f0, c.f1⟩
theorem toCalls_length (l : List S56) : (toCalls l).length = l.length := by simp [toCalls]

theorem szCallS_small (l : List S56) (h : l.length ≤ 1048576) : laws_szCallS.f l 1048576 = some (1048576 - (l.length : Int)) := by
  unfold laws_szCallS.f
  rw [w64 (by omega) (by omega), if_neg (by omega)]
theorem szCallS_great (l : List S56) (h : ¬ l.length ≤ 1048576) (h2 : l.length ≤ 9223372036854775807) : laws_szCallS.f l 1048576 = some (-1) := by
  unfold laws_szCallS.f
  rw [w64 (by omega) (by omega), if_pos (by omega)]

theorem toCallS_l0 (l : List S56) (h : l.length ≤ 1048576) : ∀ (d : Nat) (i : Int) (acc : List S54), 0 ≤ i → i + d = l.length → acc.length = l.length →
    (∀ j : Nat, (j : Int) < i → acc.getD j z54 = (toCalls l).getD j z54) → Ev (fun k => laws_toCallS.l0 k l acc i) (toCalls l) := by
  intro d
  induction d with
  | zero =>
    intro i acc h0 hi hl hacc
    refine ev_step (f := fun _ => some acc) (fun k => ?_) ?_
    · simp only [laws_toCallS.l0]; rw [if_neg (by omega)]
    · have : acc = toCalls l := ext_getD z54 (by rw [hl, toCalls_length]) (fun j hj => hacc j (by omega))
      rw [this]; exact ev_now _
  | succ d ih =>
    intro i acc h0 hi hl hacc
    refine ev_step (f := fun k => laws_toCallS.l0 k l (acc.set i.toNat ⟨(l.getD i.toNat z56).f0, (l.getD i.toNat z56).f1⟩) (i + 1)) (fun k => ?_) ?_
    · simp only [laws_toCallS.l0, laws_toCall.f, rd_T56, Option.bind_some]
      rw [if_pos (by omega), if_pos h0, if_pos (by omega), w64 (by omega) (by omega)]
    · refine ih (i + 1) _ (by omega) (by omega) (by simpa using hl) (fun j hj => ?_)
      rw [getD_set _ _ _ _ _ (by omega)]
      split
      · rename_i e
        subst e
        rw [toCalls, getD_map (fun c : S56 => (⟨c.f0, c.f1⟩ : S54)) l i.toNat z56 z54 (by omega)]
      · exact hacc j (by omega)
theorem toCallS_ev (l : List S56) (h : l.length ≤ 1048576) : Ev (fun k => laws_toCallS.f k l) (toCalls l) := by
  unfold laws_toCallS.f
  have h1 : (0 : Int) ≤ (l.length : Int) := by omega
  have h2 : ((l.length : Int)).toNat ≤ 17592186044416 := by omega
  simp only [if_pos h1, if_pos h2]
  exact toCallS_l0 l h l.length 0 _ (by omega) (by omega) (by simp) (fun j hj => by omega)

theorem eqCallS_l0 (a : List S54) (h : a.length ≤ 1048576) : ∀ (d : Nat) (i : Int), 0 ≤ i → i + d = a.length → Ev (fun k => laws_eqCallS.l0 k a a i) true := by
  intro d
  induction d with
  | zero =>
    intro i h0 hi
    refine ev_step (f := fun _ => some true) (fun k => ?_) (ev_now _)
    simp only [laws_eqCallS.l0]; rw [if_neg (by omega)]
  | succ d ih =>
    intro i h0 hi
    refine ev_step (f := fun k => laws_eqCallS.l0 k a a (i + 1)) (fun k => ?_) (ih _ (by omega) (by omega))
    simp only [laws_eqCallS.l0, laws_eqCall.f, if_true, Option.bind_some]
    rw [if_pos (by omega), if_pos h0, if_pos (by omega), w64 (by omega) (by omega)]
theorem eqCallS_ev (a : List S54) (h : a.length ≤ 1048576) : Ev (fun k => laws_eqCallS.f k a a) true := by
  unfold laws_eqCallS.f
  simp only [if_true]
  exact eqCallS_l0 a h a.length 0 (by omega) (by omega)

/-! calls: marked -/
def markedC (n : Nat) (m : Int) : List S54 := (List.range n).map fun i : Nat => ⟨m + 2 * (i : Int), m + 2 * (i : Int) + 1⟩
theorem markCallS_l0 (n : Nat) (m : Int) (hn : n ≤ 1048576) (hm : 0 ≤ m) (hm2 : m ≤ 1099511627776) : ∀ (d : Nat) (i : Int) (acc : List S54), 0 ≤ i → i + d = n → acc.length = n →
    (∀ j : Nat, (j : Int) < i → acc.getD j z54 = (markedC n m).getD j z54) → Ev (fun k => laws_markCallS.l0 k acc (m + 2 * i) i) (m + 2 * n, markedC n m) := by
  intro d
  induction d with
  | zero =>
    intro i acc h0 hi hl hacc
    refine ev_step (f := fun _ => some (m + 2 * i, acc)) (fun k => ?_) ?_
    · simp only [laws_markCallS.l0]; rw [if_neg (by omega)]
    · have e : acc = markedC n m := ext_getD z54 (by rw [hl]; simp [markedC]) (fun j hj => hacc j (by omega))
      rw [e, show m + 2 * i = m + 2 * n by omega]; exact ev_now _
  | succ d ih =>
    intro i acc h0 hi hl hacc
    refine ev_step (f := fun k => laws_markCallS.l0 k (acc.set i.toNat ⟨m + 2 * i, m + 2 * i + 1⟩) (m + 2 * (i + 1)) (i + 1)) (fun k => ?_) ?_
    · have hi' : i.toNat < acc.length := by omega
      simp only [laws_markCallS.l0, Option.bind_some, rd_T54]
      rw [if_pos (by omega), if_pos h0, w64 (by omega) (by omega), w64 (by omega) (by omega), w64 (by omega) (by omega), show m + 2 * i + 1 + 1 = m + 2 * (i + 1) by omega, List.set_set, getD_set _ _ _ _ _ hi']
      simp
    · refine ih (i + 1) _ (by omega) (by omega) (by simpa using hl) (fun j hj => ?_)
      rw [getD_set _ _ _ _ _ (by omega)]
      split
      · rename_i e
        subst e
        rw [markedC, getD_range_map _ _ _ _ (by omega), show ((i.toNat : Nat) : Int) = i by omega]
      · exact hacc j (by omega)
theorem markCallS_ev (l : List S54) (m : Int) (hn : l.length ≤ 1048576) (hm : 0 ≤ m) (hm2 : m ≤ 1099511627776) : Ev (fun k => laws_markCallS.f k l m) (m + 2 * (l.length : Int), markedC l.length m) := by
  unfold laws_markCallS.f
  have := markCallS_l0 l.length m hn hm hm2 l.length 0 l (by omega) (by omega) rfl (fun j hj => by omega)
  simpa using this

/-! calls: held -/
theorem heldCallS_l0 (n : Nat) (m : Int) (hn : n ≤ 1048576) (hm : 0 ≤ m) (hm2 : m ≤ 1099511627776) : ∀ (d : Nat) (i : Int), 0 ≤ i → i + d = n → Ev (fun k => laws_heldCallS.l0 k (markedC n m) (m + 2 * i) i) (m + 2 * n) := by
  intro d
  have hl : (markedC n m).length = n := by simp [markedC]
  induction d with
  | zero =>
    intro i h0 hi
    refine ev_step (f := fun _ => some (m + 2 * i)) (fun k => ?_) ?_
    · simp only [laws_heldCallS.l0]; rw [if_neg (by omega)]
    · rw [show m + 2 * i = m + 2 * n by omega]; exact ev_now _
  | succ d ih =>
    intro i h0 hi
    refine ev_step (f := fun k => laws_heldCallS.l0 k (markedC n m) (m + 2 * (i + 1)) (i + 1)) (fun k => ?_) (ih _ (by omega) (by omega))
    have e : rd_T54 (markedC n m) i = ⟨m + 2 * i, m + 2 * i + 1⟩ := by
      show (markedC n m).getD i.toNat z54 = _
      rw [markedC, getD_range_map _ _ _ _ (by omega), show ((i.toNat : Nat) : Int) = i by omega]
    simp only [laws_heldCallS.l0, e, if_true]
    rw [if_pos (by omega), if_pos h0, w64 (by omega) (by omega), w64 (by omega) (by omega), w64 (by omega) (by omega), if_pos rfl, show m + 2 * i + 1 + 1 = m + 2 * (i + 1) by omega]
theorem heldCallS_ev (n : Nat) (m : Int) (hn : n ≤ 1048576) (hm : 0 ≤ m) (hm2 : m ≤ 1099511627776) : Ev (fun k => laws_heldCallS.f k (markedC n m) m) (m + 2 * (n : Int)) := by
  unfold laws_heldCallS.f
  have := heldCallS_l0 n m hn hm hm2 n 0 (by omega) (by omega)
  simpa using this

def isCallB (n a b : Int) : Bool := decide (0 ≤ a) && (decide (a < b) && decide (b < n))
theorem isCall_f (n a b : Int) : impl_isCall.f n a b = some (isCallB n a b) := by
  unfold impl_isCall.f isCallB
  by_cases h1 : 0 ≤ a <;> by_cases h2 : a < b <;> by_cases h3 : b < n <;> simp [h1, h2, h3]

theorem caCall_f (n a b : Int) (h1 : 1 ≤ n) (h2 : n ≤ 10) : spec_caCall.f n a b = some (isCallB n a b) := by
  unfold spec_caCall.f spec_l1In.f isCallB
  rw [w64 (by omega) (by omega)]
  by_cases g1 : 0 ≤ a
  · by_cases g2 : a ≤ n - 1
    · rw [w64 (by omega) (by omega)]
      by_cases g3 : a + 1 ≤ b <;> by_cases g4 : b ≤ n - 1
      · have e1 : a < b := by omega
        have e2 : b < n := by omega
        simp [g1, g2, g3, g4, e1, e2]
      · have e1 : a < b := by omega
        have e2 : ¬ b < n := by omega
        simp [g1, g2, g3, g4, e1, e2]
      · have e1 : ¬ a < b := by omega
        simp [g1, g2, g3, e1]
      · have e1 : ¬ a < b := by omega
        simp [g1, g2, g3, e1]
    · by_cases g3 : a < b
      · have e2 : ¬ b < n := by omega
        simp [g1, g2, e2]
      · simp [g1, g2, g3]
  · simp [g1]

/-! networks: strictly increasing lists of calls -/
theorem isCallB_bd {n a b : Int} (h : isCallB n a b = true) : 0 ≤ a ∧ a < b ∧ b < n := by simpa [isCallB] using h
def lessB (c d : S54) : Bool := decide (c.f0 < d.f0) || (decide (c.f0 = d.f0) && decide (c.f1 < d.f1))
def pairsB (n : Int) : Option S54 → List S54 → Bool
  | _, [] => true
  | none, c :: cs => isCallB n c.f0 c.f1 && pairsB n (some c) cs
  | some p, c :: cs => isCallB n c.f0 c.f1 && (lessB p c && pairsB n (some c) cs)
def friendsB (n : Int) : Bool := decide (1 ≤ n) && decide (n ≤ 10)
def arePairsB (n : Int) (l : List S54) : Bool := friendsB n && pairsB n none l
def codeP (c : S54) : Nat := 10 * c.f0.toNat + c.f1.toNat
def validN (n : Nat) (x : Nat) : Bool := decide (x / 10 < x % 10) && decide (x % 10 < n)
theorem valid_count : ∀ n : Fin 11, (List.range 100).countP (validN n.val) = n.val * (n.val - 1) / 2 := by decide +kernel
theorem valid_code {n : Int} (hn : n ≤ 10) {c : S54} (h : isCallB n c.f0 c.f1 = true) : validN n.toNat (codeP c) = true ∧ codeP c < 100 := by
  obtain ⟨h1, h2, h3⟩ := isCallB_bd h
  have e1 : codeP c / 10 = c.f0.toNat := by unfold codeP; omega
  have e2 : codeP c % 10 = c.f1.toNat := by unfold codeP; omega
  refine ⟨?_, by unfold codeP; omega⟩
  simp only [validN, e1, e2, Bool.and_eq_true, decide_eq_true_eq]
  omega
theorem less_code {n : Int} (hn : n ≤ 10) {c d : S54} (hc : isCallB n c.f0 c.f1 = true) (hd : isCallB n d.f0 d.f1 = true) (h : lessB c d = true) : codeP c < codeP d := by
  obtain ⟨h1, h2, h3⟩ := isCallB_bd hc
  obtain ⟨g1, g2, g3⟩ := isCallB_bd hd
  simp [lessB] at h
  unfold codeP
  omega
theorem range_count (p : Nat → Bool) : ∀ (m s x : Nat), s ≤ x → x < s + m → p x = true → 1 + (List.range' (x + 1) (s + m - (x + 1))).countP p ≤ (List.range' s m).countP p
  | 0, s, x, h1, h2, _ => by omega
  | m + 1, s, x, h1, h2, hp => by
    rw [List.range'_succ, List.countP_cons]
    rcases Nat.lt_or_ge s x with h | h
    · have ih := range_count p m (s + 1) x h (by omega) hp
      rw [show s + (m + 1) - (x + 1) = s + 1 + m - (x + 1) by omega]
      omega
    · have e : x = s := by omega
      subst e
      rw [if_pos hp, show x + (m + 1) - (x + 1) = m by omega]
      omega
theorem pairs_le {n : Int} (hn : n ≤ 10) : ∀ (l : List S54) (p : S54) (_ : isCallB n p.f0 p.f1 = true), pairsB n (some p) l = true → l.length ≤ (List.range' (codeP p + 1) (100 - (codeP p + 1))).countP (validN n.toNat)
  | [], p, _, _ => Nat.zero_le _
  | c :: cs, p, hp, h => by
    simp only [pairsB, Bool.and_eq_true] at h
    obtain ⟨h1, h2, h3⟩ := h
    have ih := pairs_le hn cs c h1 h3
    have v := valid_code hn h1
    have vp := valid_code hn hp
    have lt := less_code hn hp h1 h2
    have := range_count (validN n.toNat) (100 - (codeP p + 1)) (codeP p + 1) (codeP c) lt (by omega) v.1
    rw [show codeP p + 1 + (100 - (codeP p + 1)) - (codeP c + 1) = 100 - (codeP c + 1) by omega] at this
    rw [List.length_cons]
    omega
theorem pairs_length {n : Int} {l : List S54} (h : arePairsB n l = true) : l.length ≤ n.toNat * (n.toNat - 1) / 2 := by
  simp only [arePairsB, friendsB, Bool.and_eq_true, decide_eq_true_eq] at h
  obtain ⟨⟨h1, h2⟩, h3⟩ := h
  have hv := valid_count ⟨n.toNat, by omega⟩
  simp only at hv
  rw [← hv, List.range_eq_range']
  cases l with
  | nil => exact Nat.zero_le _
  | cons c cs =>
    simp only [pairsB, Bool.and_eq_true] at h3
    have v := valid_code h2 h3.1
    have := range_count (validN n.toNat) 100 0 (codeP c) (Nat.zero_le _) (by omega) v.1
    have g := pairs_le h2 cs c h3.1 h3.2
    rw [show 0 + 100 - (codeP c + 1) = 100 - (codeP c + 1) by omega] at this
    rw [List.length_cons]
    omega
theorem pairs_45 {n : Int} {l : List S54} (h : arePairsB n l = true) : 1 ≤ n ∧ n ≤ 10 ∧ l.length ≤ 45 := by
  have hl := pairs_length h
  simp only [arePairsB, friendsB, Bool.and_eq_true, decide_eq_true_eq] at h
  obtain ⟨⟨h1, h2⟩, h3⟩ := h
  have : n.toNat * (n.toNat - 1) ≤ 10 * 9 := Nat.mul_le_mul (by omega) (by omega)
  exact ⟨h1, h2, by omega⟩
theorem pairs_all {n : Int} : ∀ (l : List S54) (o : Option S54), pairsB n o l = true → ∀ c ∈ l, isCallB n c.f0 c.f1 = true
  | [], _, _ => by simp
  | c :: cs, o, h => by
    have h' : isCallB n c.f0 c.f1 = true ∧ pairsB n (some c) cs = true := by
      cases o with
      | none => simpa [pairsB] using h
      | some p => simp only [pairsB, Bool.and_eq_true] at h; exact ⟨h.1, h.2.2⟩
    intro d hd
    rcases List.mem_cons.1 hd with rfl | hd
    · exact h'.1
    · exact pairs_all cs _ h'.2 d hd
theorem arePairs_all {n : Int} {l : List S54} (h : arePairsB n l = true) : ∀ c ∈ l, isCallB n c.f0 c.f1 = true := by
  simp only [arePairsB, Bool.and_eq_true] at h
  exact pairs_all l none h.2
def prevP (l : List S54) (i : Nat) : Option S54 := if i = 0 then none else some (l.getD (i - 1) z54)
theorem pairs_step (n : Int) (l : List S54) (i : Nat) (h : i < l.length) : pairsB n (prevP l i) (l.drop i) = (isCallB n (l.getD i z54).f0 (l.getD i z54).f1 && ((i = 0 || lessB (l.getD (i - 1) z54) (l.getD i z54)) && pairsB n (prevP l (i + 1)) (l.drop (i + 1)))) := by
  rw [drop_at l i z54 h]
  have e : prevP l (i + 1) = some (l.getD i z54) := by simp [prevP]
  rw [e]
  unfold prevP
  by_cases hi : i = 0
  · rw [if_pos hi]; simp [pairsB, hi]
  · rw [if_neg hi]; simp [pairsB, hi]
theorem neFriends_f (n : Int) : spec_neFriends.f n = some (friendsB n) := by
  unfold spec_neFriends.f spec_l1In.f friendsB
  by_cases h1 : 1 ≤ n <;> by_cases h2 : n ≤ 10 <;> simp [h1, h2]
theorem areFriendsN_f (n : Int) : impl_areFriends.f n = some (friendsB n) := by
  unfold impl_areFriends.f impl_within.f friendsB
  by_cases h1 : 1 ≤ n <;> by_cases h2 : n ≤ 10 <;> simp [h1, h2]
theorem neLess_f (c d : S54) : spec_neLess.f c.f0 c.f1 d.f0 d.f1 = some (lessB c d) := by
  unfold spec_neLess.f lessB
  by_cases h1 : c.f0 < d.f0
  · simp [h1]
  · by_cases h2 : c.f0 = d.f0 <;> simp [h1, h2]
theorem neGood_l0 (n : Int) (l : List S54) (h : l.length ≤ 1048576) (h1 : 1 ≤ n) (h2 : n ≤ 10) : ∀ (d : Nat) (i : Nat), i + d = l.length →
    Ev (fun k => spec_neGood.l0 k n l l (l.length : Int) (i : Int)) (pairsB n (prevP l i) (l.drop i)) := by
  intro d
  induction d with
  | zero =>
    intro i hi
    refine ev_step (f := fun _ => some true) (fun k => ?_) ?_
    · simp only [spec_neGood.l0]; rw [if_neg (by omega)]
    · rw [List.drop_eq_nil_of_le (by omega)]; exact ev_now _
  | succ d ih =>
    intro i hi
    rw [pairs_step n l i (by omega)]
    have e : rd_T54 l (i : Int) = l.getD i z54 := rfl
    cases hq : isCallB n (l.getD i z54).f0 (l.getD i z54).f1 with
    | false =>
      refine ev_step (f := fun _ => some false) (fun k => ?_) (ev_now _)
      simp only [spec_neGood.l0, e, caCall_f n _ _ h1 h2, Option.bind_some, hq]
      rw [if_pos (by omega), if_pos (by omega), if_pos (by omega), if_neg (by simp)]
    | true =>
      rw [Bool.true_and]
      by_cases hi0 : i = 0
      · refine ev_step (f := fun k => spec_neGood.l0 k n l l (l.length : Int) ((i + 1 : Nat) : Int)) (fun k => ?_) ?_
        · simp only [spec_neGood.l0, e, caCall_f n _ _ h1 h2, Option.bind_some, hq, if_true]
          rw [if_pos (by omega), if_pos (by omega), if_pos (by omega), if_neg (by omega), w64 (by omega) (by omega)]
          rfl
        · simpa [hi0] using ih (i + 1) (by omega)
      · have e2 : wrap64 ((i : Int) - 1) = ((i - 1 : Nat) : Int) := by rw [w64 (by omega) (by omega)]; omega
        have e3 : rd_T54 l ((i - 1 : Nat) : Int) = l.getD (i - 1) z54 := rfl
        cases hl : lessB (l.getD (i - 1) z54) (l.getD i z54) with
        | true =>
          refine ev_step (f := fun k => spec_neGood.l0 k n l l (l.length : Int) ((i + 1 : Nat) : Int)) (fun k => ?_) ?_
          · simp only [spec_neGood.l0, e, caCall_f n _ _ h1 h2, Option.bind_some, hq, if_true, e2, e3, neLess_f, hl]
            rw [if_pos (by omega), if_pos (by omega), if_pos (by omega), if_pos (by omega), if_pos (by omega), if_pos (by omega), w64 (by omega) (by omega)]
            rfl
          · simpa [hi0] using ih (i + 1) (by omega)
        | false =>
          refine ev_step (f := fun _ => some false) (fun k => ?_) ?_
          · simp only [spec_neGood.l0, e, caCall_f n _ _ h1 h2, Option.bind_some, hq, if_true, e2, e3, neLess_f, hl]
            rw [if_pos (by omega), if_pos (by omega), if_pos (by omega), if_pos (by omega), if_pos (by omega), if_pos (by omega), if_neg (by simp)]
          · simpa [hi0] using ev_now _
theorem most_pairs : ∀ n : Fin 11, wrap64 (Int.tdiv (wrap64 ((n.val : Int) * (wrap64 ((n.val : Int) - 1)))) 2) = ((n.val * (n.val - 1) / 2 : Nat) : Int) := by decide +kernel
theorem neGood_ev (n : Int) (l : List S54) (h : l.length ≤ 1048576) : Ev (fun k => spec_neGood.f k n l) (arePairsB n l) := by
  unfold spec_neGood.f
  simp only [neFriends_f, Option.bind_some]
  cases hf : friendsB n with
  | false =>
    have e : arePairsB n l = false := by simp [arePairsB, hf]
    rw [e]
    exact ev_step (f := fun _ => some false) (fun k => by simp [spec_neGood.j0]) (ev_now _)
  | true =>
    have hf' : 1 ≤ n ∧ n ≤ 10 := by simpa [friendsB] using hf
    have hm := most_pairs ⟨n.toNat, by omega⟩
    simp only [show ((n.toNat : Nat) : Int) = n by omega] at hm
    simp only [if_true, hm]
    by_cases hl : (l.length : Int) > ((n.toNat * (n.toNat - 1) / 2 : Nat) : Int)
    · have e : arePairsB n l = false := by
        rw [Bool.eq_false_iff]; intro hh
        have := pairs_length hh
        omega
      rw [e, decide_eq_true hl]
      exact ev_step (f := fun _ => some false) (fun k => by simp [spec_neGood.j0]) (ev_now _)
    · rw [decide_eq_false hl]
      have e : arePairsB n l = pairsB n none l := by simp [arePairsB, hf]
      rw [e]
      refine ev_step (f := fun k => spec_neGood.l0 k n l l (l.length : Int) 0) (fun k => by simp [spec_neGood.j0]) ?_
      simpa [prevP] using neGood_l0 n l h hf'.1 hf'.2 l.length 0 (by omega)
theorem compare_f (a b : Int) : cmp_Compare_int.f a b = some (if a < b then -1 else if a > b then 1 else 0) := by
  unfold cmp_Compare_int.f cmp_isNaN_int.f
  simp only [Option.bind_some, bne_self_eq_false, Bool.false_eq_true, if_false]
  split
  · rfl
  · split <;> rfl
def cmpP (c d : S54) : Int := if c.f0 < d.f0 then -1 else if c.f0 > d.f0 then 1 else if c.f1 < d.f1 then -1 else if c.f1 > d.f1 then 1 else 0
theorem or2_f (x y : Int) (k : Nat) : cmp_Or_int.f (k + 3) [x, y] = some (if x = 0 then y else x) := by
  unfold cmp_Or_int.f
  by_cases hx : x = 0
  · by_cases hy : y = 0
    · simp [cmp_Or_int.l0, rd, hx, hy, wrap64]
    · simp [cmp_Or_int.l0, rd, hx, hy, wrap64]
  · simp [cmp_Or_int.l0, rd, hx, wrap64]
theorem compareCalls_ev (c d : S54) : Ev (fun k => impl_compareCalls.f k c.f0 c.f1 d.f0 d.f1) (cmpP c d) := by
  refine ⟨3, fun k hk => ?_⟩
  obtain ⟨j, rfl⟩ : ∃ j, k = j + 3 := ⟨k - 3, by omega⟩
  unfold impl_compareCalls.f
  simp only [compare_f, Option.bind_some, or2_f]
  congr 1
  unfold cmpP
  by_cases h1 : c.f0 < d.f0
  · simp [h1]
  · by_cases h2 : c.f0 > d.f0
    · simp [h1, h2]
    · simp [h1, h2]
theorem cmpP_less (c d : S54) : (cmpP c d ≥ 0) = (lessB c d = false) := by
  unfold cmpP lessB
  by_cases h1 : c.f0 < d.f0
  · simp [h1]
  · by_cases h2 : c.f0 > d.f0
    · have h3 : ¬ c.f0 = d.f0 := by omega
      simp [h1, h2, h3]
    · have h3 : c.f0 = d.f0 := by omega
      by_cases h4 : c.f1 < d.f1
      · simp [h3, h4]
      · by_cases h5 : c.f1 > d.f1 <;> simp [h3, h4, h5]
theorem arePairs_l0 (n : Int) (l : List S54) (h : l.length ≤ 1048576) : ∀ (d : Nat) (i : Nat), i + d = l.length →
    Ev (fun k => impl_ArePairs.l0 k n l l (l.length : Int) (i : Int)) (friendsB n && pairsB n (prevP l i) (l.drop i)) := by
  intro d
  induction d with
  | zero =>
    intro i hi
    refine ev_step (f := fun _ => some (friendsB n)) (fun k => ?_) ?_
    · simp only [impl_ArePairs.l0, areFriendsN_f, Option.bind_some]; rw [if_neg (by omega)]
    · rw [List.drop_eq_nil_of_le (by omega)]; simpa [pairsB] using ev_now _
  | succ d ih =>
    intro i hi
    rw [pairs_step n l i (by omega)]
    have e : rd_T54 l (i : Int) = l.getD i z54 := rfl
    cases hq : isCallB n (l.getD i z54).f0 (l.getD i z54).f1 with
    | false =>
      refine ev_step (f := fun _ => some false) (fun k => ?_) (by simpa using ev_now _)
      simp only [impl_ArePairs.l0, e, isCall_f, Option.bind_some, hq]
      rw [if_pos (by omega), if_pos (by omega), if_pos (by omega), if_neg (by simp)]
    | true =>
      rw [Bool.true_and]
      by_cases hi0 : i = 0
      · refine ev_step (f := fun k => impl_ArePairs.l0 k n l l (l.length : Int) ((i + 1 : Nat) : Int)) (fun k => ?_) ?_
        · simp only [impl_ArePairs.l0, e, isCall_f, Option.bind_some, hq, if_true]
          rw [if_pos (by omega), if_pos (by omega), if_pos (by omega), if_neg (by omega), w64 (by omega) (by omega)]
          rfl
        · simpa [hi0] using ih (i + 1) (by omega)
      · have e2 : wrap64 ((i : Int) - 1) = ((i - 1 : Nat) : Int) := by rw [w64 (by omega) (by omega)]; omega
        have e3 : rd_T54 l ((i - 1 : Nat) : Int) = l.getD (i - 1) z54 := rfl
        refine ev_step (f := fun k => (impl_compareCalls.f k (l.getD (i - 1) z54).f0 (l.getD (i - 1) z54).f1 (l.getD i z54).f0 (l.getD i z54).f1).bind fun t => if t ≥ 0 then some false else impl_ArePairs.l0 k n l l (l.length : Int) ((i + 1 : Nat) : Int)) (fun k => ?_) ?_
        · simp only [impl_ArePairs.l0, e, isCall_f, Option.bind_some, hq, if_true, e2, e3]
          rw [if_pos (by omega), if_pos (by omega), if_pos (by omega), if_pos (by omega), if_pos (by omega), if_pos (by omega), w64 (by omega) (by omega)]
          rfl
        · refine Ev.bind (compareCalls_ev _ _) ?_
          simp only [cmpP_less]
          cases hl : lessB (l.getD (i - 1) z54) (l.getD i z54) with
          | true => simpa [hi0] using ih (i + 1) (by omega)
          | false => simpa [hi0] using ev_now _
theorem arePairs_ev (n : Int) (l : List S54) (h : l.length ≤ 1048576) : Ev (fun k => impl_ArePairs.f k n l) (arePairsB n l) := by
  unfold impl_ArePairs.f
  have h0 := arePairs_l0 n l h l.length 0 (by omega)
  simpa [prevP, arePairsB] using h0

theorem less_f (l : List S54) (i : Nat) (hi : i < l.length) (h : l.length ≤ 1048576) : spec_caLess.f l (i : Int) = some (l.eraseIdx i) := by
  unfold spec_caLess.f
  have e : wrap64 ((i : Int) + 1) = ((i + 1 : Nat) : Int) := by rw [w64 (by omega) (by omega)]; omega
  have q1 : (0 : Int) ≤ (i : Int) := by omega
  have q2 : (i : Int) ≤ (l.length : Int) := by omega
  have q3 : (0 : Int) ≤ ((i + 1 : Nat) : Int) := by omega
  have q4 : ((i + 1 : Nat) : Int) ≤ (l.length : Int) := by omega
  have q5 : (l.take i).length < 8796093022208 := by rw [List.length_take]; omega
  have q6 : (l.take i).length + (l.drop (i + 1)).length < 8796093022208 := by rw [List.length_take, List.length_drop]; omega
  simp only [e, Option.bind_some, if_pos q1, if_pos q2, if_pos q3, if_pos q4, Int.toNat_natCast, List.length_nil, Nat.zero_add, List.nil_append, if_pos q5, if_pos q6]
  rw [List.eraseIdx_eq_take_drop_succ]
theorem without_f (l : List S54) (i : Nat) (hi : i < l.length) (h : l.length ≤ 1048576) : impl_Call_59.f l (i : Int) = some (l.eraseIdx i) := by
  unfold impl_Call_59.f
  rw [if_pos (by omega), if_pos (by omega), if_pos (by omega), Int.toNat_natCast]


def resP (n : Int) (cs : List S54) (a : Int) : List S54 × Bool := if arePairsB n cs = true then (if 0 ≤ a ∧ a < cs.length then (cs.eraseIdx a.toNat, true) else ([], false)) else ([], false)
theorem resP_length (n : Int) (cs : List S54) (a : Int) (h : cs.length ≤ 1048576) : (resP n cs a).1.length ≤ 1048576 := by
  unfold resP
  split
  · split
    · exact Nat.le_trans (List.eraseIdx_sublist cs a.toNat).length_le h
    · simp
  · simp
theorem inside (cs : List S54) (a : Int) (h : cs.length ≤ 60) : spec_l1In.f a 0 (wrap64 ((cs.length : Int) - 1)) = some (decide (0 ≤ a ∧ a < cs.length)) := by
  unfold spec_l1In.f
  rw [w64 (by omega) (by omega)]
  by_cases g1 : 0 ≤ a <;> by_cases g2 : a < cs.length
  · have : a ≤ (cs.length : Int) - 1 := by omega
    simp [g1, g2, this]
  · have : ¬ a ≤ (cs.length : Int) - 1 := by omega
    simp [g1, g2, this]
  · simp [g1]
  · simp [g1]
theorem inside2 (cs : List S54) (a : Int) (h : cs.length ≤ 60) : impl_within.f a 0 (wrap64 ((cs.length : Int) - 1)) = some (decide (0 ≤ a ∧ a < cs.length)) := by
  unfold impl_within.f
  rw [w64 (by omega) (by omega)]
  by_cases g1 : 0 ≤ a <;> by_cases g2 : a < cs.length
  · have : a ≤ (cs.length : Int) - 1 := by omega
    simp [g1, g2, this]
  · have : ¬ a ≤ (cs.length : Int) - 1 := by omega
    simp [g1, g2, this]
  · simp [g1]
  · simp [g1]
theorem spec_ev (n : Int) (cs : List S54) (a : Int) (h : cs.length ≤ 1048576) : Ev (fun k => spec_DropPair.f k n cs a) (resP n cs a) := by
  unfold spec_DropPair.f resP
  refine Ev.bind (neGood_ev n cs h) ?_
  cases hg : arePairsB n cs with
  | false => simpa using ev_now _
  | true =>
    obtain ⟨h1, h2, h3⟩ := pairs_45 hg
    simp only [if_true, inside cs a (show cs.length ≤ 60 by omega), Option.bind_some]
    by_cases ha : 0 ≤ a ∧ a < cs.length
    · have e := less_f cs a.toNat (by omega) h
      rw [show ((a.toNat : Nat) : Int) = a by omega] at e
      simp only [ha, decide_true, and_self, if_true, e, Option.bind_some]
      exact ev_now _
    · simp only [ha, decide_false, Bool.false_eq_true, if_false]
      exact ev_now _
theorem impl_ev (n : Int) (cs : List S54) (a : Int) (h : cs.length ≤ 1048576) : Ev (fun k => impl_DropPair.f k n cs a) (resP n cs a) := by
  unfold impl_DropPair.f resP
  refine Ev.bind (arePairs_ev n cs h) ?_
  cases hg : arePairsB n cs with
  | false => simpa using ev_now _
  | true =>
    obtain ⟨h1, h2, h3⟩ := pairs_45 hg
    simp only [if_true, inside2 cs a (show cs.length ≤ 60 by omega), Option.bind_some]
    by_cases ha : 0 ≤ a ∧ a < cs.length
    · have e := without_f cs a.toNat (by omega) h
      rw [show ((a.toNat : Nat) : Int) = a by omega] at e
      simp only [ha, decide_true, and_self, if_true, e, Option.bind_some]
      exact ev_now _
    · simp only [ha, decide_false, Bool.false_eq_true, if_false]
      exact ev_now _
theorem FnExactDropPair : ∀ (a0 : Int) (l1 : (List S56)) (a2 : Int), (Lit.int .i64 a0).wf = true → l1.length ≤ 9223372036854775807 → (Lit.int .i64 a2).wf = true → ∃ k, laws_FnExactDropPair.f k a0 l1 a2 = some true := by
  intro a0 l1 a2 w0 hl1 w2
  apply Ev.rounds
  unfold laws_FnExactDropPair.f
  by_cases h1 : l1.length ≤ 1048576
  · simp only [szCallS_small l1 h1, Option.bind_some]
    have h0 : ¬ (1048576 - (l1.length : Int)) < 0 := by omega
    simp only [if_neg h0]
    have g1 : (toCalls l1).length ≤ 1048576 := by rw [toCalls_length]; exact h1
    refine Ev.bind (toCallS_ev l1 h1) ?_
    refine Ev.bind (spec_ev a0 (toCalls l1) a2 g1) ?_
    refine Ev.bind (toCallS_ev l1 h1) ?_
    refine Ev.bind (impl_ev a0 (toCalls l1) a2 g1) ?_
    have hr : (resP a0 (toCalls l1) a2).1.length ≤ 1048576 := resP_length a0 (toCalls l1) a2 g1
    have hm2 : ¬ (1 + 2 * (((resP a0 (toCalls l1) a2).1.length : Nat) : Int)) < 0 := by omega
    refine Ev.bind (eqCallS_ev _ hr) ?_
    simp only [bne_self_eq_false, Bool.false_eq_true, if_false, if_true]
    refine Ev.step (fun k => by simp only [laws_FnExactDropPair.j0, Bool.false_eq_true, if_false] <;> exact rfl) ?_
    refine Ev.bind (toCallS_ev l1 h1) ?_
    refine Ev.bind (eqCallS_ev _ g1) ?_
    simp only [if_true]
    refine Ev.bind (markCallS_ev _ 1 g1 (by omega) (by omega)) ?_
    have hm11 : ¬ (1 + 2 * (((toCalls l1).length : Nat) : Int)) < 0 := by omega
    simp only [if_neg hm11]
    refine Ev.bind (eqCallS_ev _ hr) ?_
    simp only [bne_self_eq_false, Bool.false_eq_true, if_false, if_true]
    refine Ev.step (fun k => by simp only [laws_FnExactDropPair.j1, Bool.false_eq_true, if_false] <;> exact rfl) ?_
    refine Ev.bind (markCallS_ev _ 1 hr (by omega) (by omega)) ?_
    refine Ev.bind (heldCallS_ev _ 1 hr (by omega) (by omega)) ?_
    simp only [if_neg hm2, if_true]
    refine Ev.bind (toCallS_ev l1 h1) ?_
    refine Ev.bind (impl_ev a0 (toCalls l1) a2 g1) ?_
    refine Ev.bind (eqCallS_ev _ hr) ?_
    simp only [bne_self_eq_false, Bool.false_eq_true, if_false, if_true]
    refine Ev.step (fun k => by simp only [laws_FnExactDropPair.j2, Bool.false_eq_true, if_false] <;> exact rfl) ?_
    refine Ev.bind (heldCallS_ev _ 1 hr (by omega) (by omega)) ?_
    simp only [if_neg hm2, if_true]
    exact ev_now _
  · simp only [szCallS_great l1 h1 hl1, Option.bind_some]
    exact ev_now _

end Go.Proofs.Ytdlmopgblcakaaa.Pure
