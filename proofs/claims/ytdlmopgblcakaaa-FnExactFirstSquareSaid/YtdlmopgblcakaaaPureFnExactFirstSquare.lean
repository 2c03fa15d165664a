/- The pure side of FnExactFirstSquare: program and reference agree at every argument. No condition beside what an argument is. -/
import Derived.Test.YtdlmopgblcakaaaPFnExactFirstSquarex20
import Derived.Test.YtdlmopgblcakaaaPBase
namespace Go.Proofs.Ytdlmopgblcakaaa.Pure
open Go.RowKit Go.Proofs.Ytdlmopgblcakaaa.PFnExactFirstSquare Go.Proofs.YtdlmopgblcakaaaW.PrintWords Go.Proofs.YtdlmopgblcakaaaW.PrintLast Go.Proofs.YtdlmopgblcakaaaW.PrintMore Go.Proofs.Ytdlmopgblcakaaa.PB
set_option linter.unusedSimpArgs false
set_option linter.unusedVariables false
/-! calls: read, compared, marked -/
def toCalls (l : List S56) : List S54 := l.map fun c => ⟨c.f0, c.f1⟩
theorem toCalls_length (l : List S56) : (toCalls l).length = l.length := by simp [toCalls]

theorem szCallS_small (l : List S56) (h : l.length ≤ 1048576) : laws_szCallS.f l 1048576 = some (1048576 - (l.length : Int)) := by
  unfold laws_szCallS.f
  rw [w64 (by omega) (by omega), if_neg (by omega)]
theorem szCallS_great (l : List S56) (h : ¬ l.length ≤ 1048576) (h2 : l.length ≤ 9223372036854775807) : laws_szCallS.f l 1048576 = some (-1) := by
  unfold laws_szCallS.f
  rw [w64 (by omega) (by omega), if_pos (by omega)]

theorem toCallS_l0 (l : List S56) (h : l.length ≤ 1048576) : ∀ (d : Nat) (i : Int) (acc : List S54), 0 ≤ i → i + d = l.length → acc.length = l.length →
    (∀ j : Nat, (j : Int) < i → acc.getD j z54 = (toCalls l).getD j z54) → Ev (fun k => laws_toCallS.l0 k l acc i) (toCalls l) := by
  intro d
  induction d with
  | zero =>
    intro i acc h0 hi hl hacc
    refine ev_step (f := fun _ => some acc) (fun k => ?_) ?_
    · simp only [laws_toCallS.l0]; rw [if_neg (by omega)]
    · have : acc = toCalls l := ext_getD z54 (by rw [hl, toCalls_length]) (fun j hj => hacc j (by omega))
      rw [this]; exact ev_now _
  | succ d ih =>
    intro i acc h0 hi hl hacc
    refine ev_step (f := fun k => laws_toCallS.l0 k l (acc.set i.toNat ⟨(l.getD i.toNat z56).f0, (l.getD i.toNat z56).f1⟩) (i + 1)) (fun k => ?_) ?_
    · simp only [laws_toCallS.l0, laws_toCall.f, rd_T56, Option.bind_some]
      rw [if_pos (by omega), if_pos h0, if_pos (by omega), w64 (by omega) (by omega)]
    · refine ih (i + 1) _ (by omega) (by omega) (by simpa using hl) (fun j hj => ?_)
      rw [getD_set _ _ _ _ _ (by omega)]
      split
      · rename_i e
        subst e
        rw [toCalls, getD_map (fun c : S56 => (⟨c.f0, c.f1⟩ : S54)) l i.toNat z56 z54 (by omega)]
      · exact hacc j (by omega)
theorem toCallS_ev (l : List S56) (h : l.length ≤ 1048576) : Ev (fun k => laws_toCallS.f k l) (toCalls l) := by
  unfold laws_toCallS.f
  have h1 : (0 : Int) ≤ (l.length : Int) := by omega
  have h2 : ((l.length : Int)).toNat ≤ 17592186044416 := by omega
  simp only [if_pos h1, if_pos h2]
  exact toCallS_l0 l h l.length 0 _ (by omega) (by omega) (by simp) (fun j hj => by omega)

theorem eqCallS_l0 (a : List S54) (h : a.length ≤ 1048576) : ∀ (d : Nat) (i : Int), 0 ≤ i → i + d = a.length → Ev (fun k => laws_eqCallS.l0 k a a i) true := by
  intro d
  induction d with
  | zero =>
    intro i h0 hi
    refine ev_step (f := fun _ => some true) (fun k => ?_) (ev_now _)
    simp only [laws_eqCallS.l0]; rw [if_neg (by omega)]
  | succ d ih =>
    intro i h0 hi
    refine ev_step (f := fun k => laws_eqCallS.l0 k a a (i + 1)) (fun k => ?_) (ih _ (by omega) (by omega))
    simp only [laws_eqCallS.l0, laws_eqCall.f, if_true, Option.bind_some]
    rw [if_pos (by omega), if_pos h0, if_pos (by omega), w64 (by omega) (by omega)]
theorem eqCallS_ev (a : List S54) (h : a.length ≤ 1048576) : Ev (fun k => laws_eqCallS.f k a a) true := by
  unfold laws_eqCallS.f
  simp only [if_true]
  exact eqCallS_l0 a h a.length 0 (by omega) (by omega)

/-! calls: marked -/
def markedC (n : Nat) (m : Int) : List S54 := (List.range n).map fun i : Nat => ⟨m + 2 * (i : Int), m + 2 * (i : Int) + 1⟩
theorem markCallS_l0 (n : Nat) (m : Int) (hn : n ≤ 1048576) (hm : 0 ≤ m) (hm2 : m ≤ 1099511627776) : ∀ (d : Nat) (i : Int) (acc : List S54), 0 ≤ i → i + d = n → acc.length = n →
    (∀ j : Nat, (j : Int) < i → acc.getD j z54 = (markedC n m).getD j z54) → Ev (fun k => laws_markCallS.l0 k acc (m + 2 * i) i) (m + 2 * n, markedC n m) := by
  intro d
  induction d with
  | zero =>
    intro i acc h0 hi hl hacc
    refine ev_step (f := fun _ => some (m + 2 * i, acc)) (fun k => ?_) ?_
    · simp only [laws_markCallS.l0]; rw [if_neg (by omega)]
    · have e : acc = markedC n m := ext_getD z54 (by rw [hl]; simp [markedC]) (fun j hj => hacc j (by omega))
      rw [e, show m + 2 * i = m + 2 * n by omega]; exact ev_now _
  | succ d ih =>
    intro i acc h0 hi hl hacc
    refine ev_step (f := fun k => laws_markCallS.l0 k (acc.set i.toNat ⟨m + 2 * i, m + 2 * i + 1⟩) (m + 2 * (i + 1)) (i + 1)) (fun k => ?_) ?_
    · have hi' : i.toNat < acc.length := by omega
      simp only [laws_markCallS.l0, Option.bind_some, rd_T54]
      rw [if_pos (by omega), if_pos h0, w64 (by omega) (by omega), w64 (by omega) (by omega), w64 (by omega) (by omega), show m + 2 * i + 1 + 1 = m + 2 * (i + 1) by omega, List.set_set, getD_set _ _ _ _ _ hi']
      simp
    · refine ih (i + 1) _ (by omega) (by omega) (by simpa using hl) (fun j hj => ?_)
      rw [getD_set _ _ _ _ _ (by omega)]
      split
      · rename_i e
        subst e
        rw [markedC, getD_range_map _ _ _ _ (by omega), show ((i.toNat : Nat) : Int) = i by omega]
      · exact hacc j (by omega)
theorem markCallS_ev (l : List S54) (m : Int) (hn : l.length ≤ 1048576) (hm : 0 ≤ m) (hm2 : m ≤ 1099511627776) : Ev (fun k => laws_markCallS.f k l m) (m + 2 * (l.length : Int), markedC l.length m) := by
  unfold laws_markCallS.f
  have := markCallS_l0 l.length m hn hm hm2 l.length 0 l (by omega) (by omega) rfl (fun j hj => by omega)
  simpa using this

/-! lists of numbers: compared, marked -/
theorem eqIntS_l0 (a : List Int) (h : a.length ≤ 1048576) : ∀ (d : Nat) (i : Int), 0 ≤ i → i + d = a.length → Ev (fun k => laws_eqIntS.l0 k a a i) true := by
  intro d
  induction d with
  | zero =>
    intro i h0 hi
    refine ev_step (f := fun _ => some true) (fun k => ?_) (ev_now _)
    simp only [laws_eqIntS.l0]; rw [if_neg (by omega)]
  | succ d ih =>
    intro i h0 hi
    refine ev_step (f := fun k => laws_eqIntS.l0 k a a (i + 1)) (fun k => ?_) (ih _ (by omega) (by omega))
    simp only [laws_eqIntS.l0, if_true]
    rw [if_pos (by omega), if_pos h0, if_pos (by omega), w64 (by omega) (by omega)]
theorem eqIntS_ev (a : List Int) (h : a.length ≤ 1048576) : Ev (fun k => laws_eqIntS.f k a a) true := by
  unfold laws_eqIntS.f
  simp only [if_true]
  exact eqIntS_l0 a h a.length 0 (by omega) (by omega)
def markedI (n : Nat) (m : Int) : List Int := (List.range n).map fun i : Nat => m + (i : Int)
theorem markIntS_l0 (n : Nat) (m : Int) (hn : n ≤ 1048576) (hm : 0 ≤ m) (hm2 : m ≤ 1099511627776) : ∀ (d : Nat) (i : Int) (acc : List Int), 0 ≤ i → i + d = n → acc.length = n →
    (∀ j : Nat, (j : Int) < i → acc.getD j 0 = (markedI n m).getD j 0) → Ev (fun k => laws_markIntS.l0 k acc (m + i) i) (m + n, markedI n m) := by
  intro d
  induction d with
  | zero =>
    intro i acc h0 hi hl hacc
    refine ev_step (f := fun _ => some (m + i, acc)) (fun k => ?_) ?_
    · simp only [laws_markIntS.l0]; rw [if_neg (by omega)]
    · have e : acc = markedI n m := ext_getD 0 (by rw [hl]; simp [markedI]) (fun j hj => hacc j (by omega))
      rw [e, show m + i = m + n by omega]; exact ev_now _
  | succ d ih =>
    intro i acc h0 hi hl hacc
    refine ev_step (f := fun k => laws_markIntS.l0 k (acc.set i.toNat (m + i)) (m + (i + 1)) (i + 1)) (fun k => ?_) ?_
    · simp only [laws_markIntS.l0]
      rw [if_pos (by omega), if_pos h0, w64 (by omega) (by omega), w64 (by omega) (by omega), show m + i + 1 = m + (i + 1) by omega]
    · refine ih (i + 1) _ (by omega) (by omega) (by simpa using hl) (fun j hj => ?_)
      rw [getD_set _ _ _ _ _ (by omega)]
      split
      · rename_i e
        subst e
        rw [markedI, getD_range_map _ _ _ _ (by omega)]
        omega
      · exact hacc j (by omega)
theorem markIntS_ev (l : List Int) (m : Int) (hn : l.length ≤ 1048576) (hm : 0 ≤ m) (hm2 : m ≤ 1099511627776) : Ev (fun k => laws_markIntS.f k l m) (m + (l.length : Int), markedI l.length m) := by
  unfold laws_markIntS.f
  have := markIntS_l0 l.length m hn hm hm2 l.length 0 l (by omega) (by omega) rfl (fun j hj => by omega)
  simpa using this
theorem heldIntS_l0 (n : Nat) (m : Int) (hn : n ≤ 1048576) (hm : 0 ≤ m) (hm2 : m ≤ 1099511627776) : ∀ (d : Nat) (i : Int), 0 ≤ i → i + d = n → Ev (fun k => laws_heldIntS.l0 k (markedI n m) (m + i) i) (m + n) := by
  intro d
  have hl : (markedI n m).length = n := by simp [markedI]
  induction d with
  | zero =>
    intro i h0 hi
    refine ev_step (f := fun _ => some (m + i)) (fun k => ?_) ?_
    · simp only [laws_heldIntS.l0]; rw [if_neg (by omega)]
    · rw [show m + i = m + n by omega]; exact ev_now _
  | succ d ih =>
    intro i h0 hi
    refine ev_step (f := fun k => laws_heldIntS.l0 k (markedI n m) (m + (i + 1)) (i + 1)) (fun k => ?_) (ih _ (by omega) (by omega))
    have e : rd (markedI n m) i = m + i := by
      show (markedI n m).getD i.toNat 0 = _
      rw [markedI, getD_range_map _ _ _ _ (by omega)]; omega
    simp only [laws_heldIntS.l0, e, if_true]
    rw [if_pos (by omega), if_pos h0, w64 (by omega) (by omega), w64 (by omega) (by omega), show m + i + 1 = m + (i + 1) by omega]
theorem heldIntS_ev (n : Nat) (m : Int) (hn : n ≤ 1048576) (hm : 0 ≤ m) (hm2 : m ≤ 1099511627776) : Ev (fun k => laws_heldIntS.f k (markedI n m) m) (m + (n : Int)) := by
  unfold laws_heldIntS.f
  have := heldIntS_l0 n m hn hm hm2 n 0 (by omega) (by omega)
  simpa using this

def isCallB (n a b : Int) : Bool := decide (0 ≤ a) && (decide (a < b) && decide (b < n))
theorem isCall_f (n a b : Int) : impl_isCall.f n a b = some (isCallB n a b) := by
  unfold impl_isCall.f isCallB
  by_cases h1 : 0 ≤ a <;> by_cases h2 : a < b <;> by_cases h3 : b < n <;> simp [h1, h2, h3]

theorem caCall_f (n a b : Int) (h1 : 1 ≤ n) (h2 : n ≤ 10) : spec_caCall.f n a b = some (isCallB n a b) := by
  unfold spec_caCall.f spec_l1In.f isCallB
  rw [w64 (by omega) (by omega)]
  by_cases g1 : 0 ≤ a
  · by_cases g2 : a ≤ n - 1
    · rw [w64 (by omega) (by omega)]
      by_cases g3 : a + 1 ≤ b <;> by_cases g4 : b ≤ n - 1
      · have e1 : a < b := by omega
        have e2 : b < n := by omega
        simp [g1, g2, g3, g4, e1, e2]
      · have e1 : a < b := by omega
        have e2 : ¬ b < n := by omega
        simp [g1, g2, g3, g4, e1, e2]
      · have e1 : ¬ a < b := by omega
        simp [g1, g2, g3, e1]
      · have e1 : ¬ a < b := by omega
        simp [g1, g2, g3, e1]
    · by_cases g3 : a < b
      · have e2 : ¬ b < n := by omega
        simp [g1, g2, e2]
      · simp [g1, g2, g3]
  · simp [g1]

/-! networks: strictly increasing lists of calls -/
theorem isCallB_bd {n a b : Int} (h : isCallB n a b = true) : 0 ≤ a ∧ a < b ∧ b < n := by simpa [isCallB] using h
def lessB (c d : S54) : Bool := decide (c.f0 < d.f0) || (decide (c.f0 = d.f0) && decide (c.f1 < d.f1))
def pairsB (n : Int) : Option S54 → List S54 → Bool
  | _, [] => true
  | none, c :: cs => isCallB n c.f0 c.f1 && pairsB n (some c) cs
  | some p, c :: cs => isCallB n c.f0 c.f1 && (lessB p c && pairsB n (some c) cs)
def friendsB (n : Int) : Bool := decide (1 ≤ n) && decide (n ≤ 10)
def arePairsB (n : Int) (l : List S54) : Bool := friendsB n && pairsB n none l
def codeP (c : S54) : Nat := 10 * c.f0.toNat + c.f1.toNat
def validN (n : Nat) (x : Nat) : Bool := decide (x / 10 < x % 10) && decide (x % 10 < n)
theorem valid_count : ∀ n : Fin 11, (List.range 100).countP (validN n.val) = n.val * (n.val - 1) / 2 := by decide +kernel
theorem valid_code {n : Int} (hn : n ≤ 10) {c : S54} (h : isCallB n c.f0 c.f1 = true) : validN n.toNat (codeP c) = true ∧ codeP c < 100 := by
  obtain ⟨h1, h2, h3⟩ := isCallB_bd h
  have e1 : codeP c / 10 = c.f0.toNat := by unfold codeP; omega
  have e2 : codeP c % 10 = c.f1.toNat := by unfold codeP; omega
  refine ⟨?_, by unfold codeP; omega⟩
  simp only [validN, e1, e2, Bool.and_eq_true, decide_eq_true_eq]
  omega
theorem less_code {n : Int} (hn : n ≤ 10) {c d : S54} (hc : isCallB n c.f0 c.f1 = true) (hd : isCallB n d.f0 d.f1 = true) (h : lessB c d = true) : codeP c < codeP d := by
  obtain ⟨h1, h2, h3⟩ := isCallB_bd hc
  obtain ⟨g1, g2, g3⟩ := isCallB_bd hd
  simp [lessB] at h
  unfold codeP
  omega
theorem range_count (p : Nat → Bool) : ∀ (m s x : Nat), s ≤ x → x < s + m → p x = true → 1 + (List.range' (x + 1) (s + m - (x + 1))).countP p ≤ (List.range' s m).countP p
  | 0, s, x, h1, h2, _ => by omega
  | m + 1, s, x, h1, h2, hp => by
    rw [List.range'_succ, List.countP_cons]
    rcases Nat.lt_or_ge s x with h | h
    · have ih := range_count p m (s + 1) x h (by omega) hp
      rw [show s + (m + 1) - (x + 1) = s + 1 + m - (x + 1) by omega]
      omega
    · have e : x = s := by omega
      subst e
      rw [if_pos hp, show x + (m + 1) - (x + 1) = m by omega]
      omega
theorem pairs_le {n : Int} (hn : n ≤ 10) : ∀ (l : List S54) (p : S54) (_ : isCallB n p.f0 p.f1 = true), pairsB n (some p) l = true → l.length ≤ (List.range' (codeP p + 1) (100 - (codeP p + 1))).countP (validN n.toNat)
  | [], p, _, _ => Nat.zero_le _
  | c :: cs, p, hp, h => by
    simp only [pairsB, Bool.and_eq_true] at h
    obtain ⟨h1, h2, h3⟩ := h
    have ih := pairs_le hn cs c h1 h3
    have v := valid_code hn h1
    have vp := valid_code hn hp
    have lt := less_code hn hp h1 h2
    have := range_count (validN n.toNat) (100 - (codeP p + 1)) (codeP p + 1) (codeP c) lt (by omega) v.1
    rw [show codeP p + 1 + (100 - (codeP p + 1)) - (codeP c + 1) = 100 - (codeP c + 1) by omega] at this
    rw [List.length_cons]
    omega
theorem pairs_length {n : Int} {l : List S54} (h : arePairsB n l = true) : l.length ≤ n.toNat * (n.toNat - 1) / 2 := by
  simp only [arePairsB, friendsB, Bool.and_eq_true, decide_eq_true_eq] at h
  obtain ⟨⟨h1, h2⟩, h3⟩ := h
  have hv := valid_count ⟨n.toNat, by omega⟩
  simp only at hv
  rw [← hv, List.range_eq_range']
  cases l with
  | nil => exact Nat.zero_le _
  | cons c cs =>
    simp only [pairsB, Bool.and_eq_true] at h3
    have v := valid_code h2 h3.1
    have := range_count (validN n.toNat) 100 0 (codeP c) (Nat.zero_le _) (by omega) v.1
    have g := pairs_le h2 cs c h3.1 h3.2
    rw [show 0 + 100 - (codeP c + 1) = 100 - (codeP c + 1) by omega] at this
    rw [List.length_cons]
    omega
theorem pairs_45 {n : Int} {l : List S54} (h : arePairsB n l = true) : 1 ≤ n ∧ n ≤ 10 ∧ l.length ≤ 45 := by
  have hl := pairs_length h
  simp only [arePairsB, friendsB, Bool.and_eq_true, decide_eq_true_eq] at h
  obtain ⟨⟨h1, h2⟩, h3⟩ := h
  have : n.toNat * (n.toNat - 1) ≤ 10 * 9 := Nat.mul_le_mul (by omega) (by omega)
  exact ⟨h1, h2, by omega⟩
theorem pairs_all {n : Int} : ∀ (l : List S54) (o : Option S54), pairsB n o l = true → ∀ c ∈ l, isCallB n c.f0 c.f1 = true
  | [], _, _ => by simp
  | c :: cs, o, h => by
    have h' : isCallB n c.f0 c.f1 = true ∧ pairsB n (some c) cs = true := by
      cases o with
      | none => simpa [pairsB] using h
      | some p => simp only [pairsB, Bool.and_eq_true] at h; exact ⟨h.1, h.2.2⟩
    intro d hd
    rcases List.mem_cons.1 hd with rfl | hd
    · exact h'.1
    · exact pairs_all cs _ h'.2 d hd
theorem arePairs_all {n : Int} {l : List S54} (h : arePairsB n l = true) : ∀ c ∈ l, isCallB n c.f0 c.f1 = true := by
  simp only [arePairsB, Bool.and_eq_true] at h
  exact pairs_all l none h.2
def prevP (l : List S54) (i : Nat) : Option S54 := if i = 0 then none else some (l.getD (i - 1) z54)
theorem pairs_step (n : Int) (l : List S54) (i : Nat) (h : i < l.length) : pairsB n (prevP l i) (l.drop i) = (isCallB n (l.getD i z54).f0 (l.getD i z54).f1 && ((i = 0 || lessB (l.getD (i - 1) z54) (l.getD i z54)) && pairsB n (prevP l (i + 1)) (l.drop (i + 1)))) := by
  rw [drop_at l i z54 h]
  have e : prevP l (i + 1) = some (l.getD i z54) := by simp [prevP]
  rw [e]
  unfold prevP
  by_cases hi : i = 0
  · rw [if_pos hi]; simp [pairsB, hi]
  · rw [if_neg hi]; simp [pairsB, hi]
theorem neFriends_f (n : Int) : spec_neFriends.f n = some (friendsB n) := by
  unfold spec_neFriends.f spec_l1In.f friendsB
  by_cases h1 : 1 ≤ n <;> by_cases h2 : n ≤ 10 <;> simp [h1, h2]
theorem areFriendsN_f (n : Int) : impl_areFriends.f n = some (friendsB n) := by
  unfold impl_areFriends.f impl_within.f friendsB
  by_cases h1 : 1 ≤ n <;> by_cases h2 : n ≤ 10 <;> simp [h1, h2]
theorem neLess_f (c d : S54) : spec_neLess.f c.f0 c.f1 d.f0 d.f1 = some (lessB c d) := by
  unfold spec_neLess.f lessB
  by_cases h1 : c.f0 < d.f0
  · simp [h1]
  · by_cases h2 : c.f0 = d.f0 <;> simp [h1, h2]
theorem neGood_l0 (n : Int) (l : List S54) (h : l.length ≤ 1048576) (h1 : 1 ≤ n) (h2 : n ≤ 10) : ∀ (d : Nat) (i : Nat), i + d = l.length →
    Ev (fun k => spec_neGood.l0 k n l l (l.length : Int) (i : Int)) (pairsB n (prevP l i) (l.drop i)) := by
  intro d
  induction d with
  | zero =>
    intro i hi
    refine ev_step (f := fun _ => some true) (fun k => ?_) ?_
    · simp only [spec_neGood.l0]; rw [if_neg (by omega)]
    · rw [List.drop_eq_nil_of_le (by omega)]; exact ev_now _
  | succ d ih =>
    intro i hi
    rw [pairs_step n l i (by omega)]
    have e : rd_T54 l (i : Int) = l.getD i z54 := rfl
    cases hq : isCallB n (l.getD i z54).f0 (l.getD i z54).f1 with
    | false =>
      refine ev_step (f := fun _ => some false) (fun k => ?_) (ev_now _)
      simp only [spec_neGood.l0, e, caCall_f n _ _ h1 h2, Option.bind_some, hq]
      rw [if_pos (by omega), if_pos (by omega), if_pos (by omega), if_neg (by simp)]
    | true =>
      rw [Bool.true_and]
      by_cases hi0 : i = 0
      · refine ev_step (f := fun k => spec_neGood.l0 k n l l (l.length : Int) ((i + 1 : Nat) : Int)) (fun k => ?_) ?_
        · simp only [spec_neGood.l0, e, caCall_f n _ _ h1 h2, Option.bind_some, hq, if_true]
          rw [if_pos (by omega), if_pos (by omega), if_pos (by omega), if_neg (by omega), w64 (by omega) (by omega)]
          rfl
        · simpa [hi0] using ih (i + 1) (by omega)
      · have e2 : wrap64 ((i : Int) - 1) = ((i - 1 : Nat) : Int) := by rw [w64 (by omega) (by omega)]; omega
        have e3 : rd_T54 l ((i - 1 : Nat) : Int) = l.getD (i - 1) z54 := rfl
        cases hl : lessB (l.getD (i - 1) z54) (l.getD i z54) with
        | true =>
          refine ev_step (f := fun k => spec_neGood.l0 k n l l (l.length : Int) ((i + 1 : Nat) : Int)) (fun k => ?_) ?_
          · simp only [spec_neGood.l0, e, caCall_f n _ _ h1 h2, Option.bind_some, hq, if_true, e2, e3, neLess_f, hl]
            rw [if_pos (by omega), if_pos (by omega), if_pos (by omega), if_pos (by omega), if_pos (by omega), if_pos (by omega), w64 (by omega) (by omega)]
            rfl
          · simpa [hi0] using ih (i + 1) (by omega)
        | false =>
          refine ev_step (f := fun _ => some false) (fun k => ?_) ?_
          · simp only [spec_neGood.l0, e, caCall_f n _ _ h1 h2, Option.bind_some, hq, if_true, e2, e3, neLess_f, hl]
            rw [if_pos (by omega), if_pos (by omega), if_pos (by omega), if_pos (by omega), if_pos (by omega), if_pos (by omega), if_neg (by simp)]
          · simpa [hi0] using ev_now _
theorem most_pairs : ∀ n : Fin 11, wrap64 (Int.tdiv (wrap64 ((n.val : Int) * (wrap64 ((n.val : Int) - 1)))) 2) = ((n.val * (n.val - 1) / 2 : Nat) : Int) := by decide +kernel
theorem neGood_ev (n : Int) (l : List S54) (h : l.length ≤ 1048576) : Ev (fun k => spec_neGood.f k n l) (arePairsB n l) := by
  unfold spec_neGood.f
  simp only [neFriends_f, Option.bind_some]
  cases hf : friendsB n with
  | false =>
    have e : arePairsB n l = false := by simp [arePairsB, hf]
    rw [e]
    exact ev_step (f := fun _ => some false) (fun k => by simp [spec_neGood.j0]) (ev_now _)
  | true =>
    have hf' : 1 ≤ n ∧ n ≤ 10 := by simpa [friendsB] using hf
    have hm := most_pairs ⟨n.toNat, by omega⟩
    simp only [show ((n.toNat : Nat) : Int) = n by omega] at hm
    simp only [if_true, hm]
    by_cases hl : (l.length : Int) > ((n.toNat * (n.toNat - 1) / 2 : Nat) : Int)
    · have e : arePairsB n l = false := by
        rw [Bool.eq_false_iff]; intro hh
        have := pairs_length hh
        omega
      rw [e, decide_eq_true hl]
      exact ev_step (f := fun _ => some false) (fun k => by simp [spec_neGood.j0]) (ev_now _)
    · rw [decide_eq_false hl]
      have e : arePairsB n l = pairsB n none l := by simp [arePairsB, hf]
      rw [e]
      refine ev_step (f := fun k => spec_neGood.l0 k n l l (l.length : Int) 0) (fun k => by simp [spec_neGood.j0]) ?_
      simpa [prevP] using neGood_l0 n l h hf'.1 hf'.2 l.length 0 (by omega)
theorem compare_f (a b : Int) : cmp_Compare_int.f a b = some (if a < b then -1 else if a > b then 1 else 0) := by
  unfold cmp_Compare_int.f cmp_isNaN_int.f
  simp only [Option.bind_some, bne_self_eq_false, Bool.false_eq_true, if_false]
  split
  · rfl
  · split <;> rfl
def cmpP (c d : S54) : Int := if c.f0 < d.f0 then -1 else if c.f0 > d.f0 then 1 else if c.f1 < d.f1 then -1 else if c.f1 > d.f1 then 1 else 0
theorem or2_f (x y : Int) (k : Nat) : cmp_Or_int.f (k + 3) [x, y] = some (if x = 0 then y else x) := by
  unfold cmp_Or_int.f
  by_cases hx : x = 0
  · by_cases hy : y = 0
    · simp [cmp_Or_int.l0, rd, hx, hy, wrap64]
    · simp [cmp_Or_int.l0, rd, hx, hy, wrap64]
  · simp [cmp_Or_int.l0, rd, hx, wrap64]
theorem compareCalls_ev (c d : S54) : Ev (fun k => impl_compareCalls.f k c.f0 c.f1 d.f0 d.f1) (cmpP c d) := by
  refine ⟨3, fun k hk => ?_⟩
  obtain ⟨j, rfl⟩ : ∃ j, k = j + 3 := ⟨k - 3, by omega⟩
  unfold impl_compareCalls.f
  simp only [compare_f, Option.bind_some, or2_f]
  congr 1
  unfold cmpP
  by_cases h1 : c.f0 < d.f0
  · simp [h1]
  · by_cases h2 : c.f0 > d.f0
    · simp [h1, h2]
    · simp [h1, h2]
theorem cmpP_less (c d : S54) : (cmpP c d ≥ 0) = (lessB c d = false) := by
  unfold cmpP lessB
  by_cases h1 : c.f0 < d.f0
  · simp [h1]
  · by_cases h2 : c.f0 > d.f0
    · have h3 : ¬ c.f0 = d.f0 := by omega
      simp [h1, h2, h3]
    · have h3 : c.f0 = d.f0 := by omega
      by_cases h4 : c.f1 < d.f1
      · simp [h3, h4]
      · by_cases h5 : c.f1 > d.f1 <;> simp [h3, h4, h5]
theorem arePairs_l0 (n : Int) (l : List S54) (h : l.length ≤ 1048576) : ∀ (d : Nat) (i : Nat), i + d = l.length →
    Ev (fun k => impl_ArePairs.l0 k n l l (l.length : Int) (i : Int)) (friendsB n && pairsB n (prevP l i) (l.drop i)) := by
  intro d
  induction d with
  | zero =>
    intro i hi
    refine ev_step (f := fun _ => some (friendsB n)) (fun k => ?_) ?_
    · simp only [impl_ArePairs.l0, areFriendsN_f, Option.bind_some]; rw [if_neg (by omega)]
    · rw [List.drop_eq_nil_of_le (by omega)]; simpa [pairsB] using ev_now _
  | succ d ih =>
    intro i hi
    rw [pairs_step n l i (by omega)]
    have e : rd_T54 l (i : Int) = l.getD i z54 := rfl
    cases hq : isCallB n (l.getD i z54).f0 (l.getD i z54).f1 with
    | false =>
      refine ev_step (f := fun _ => some false) (fun k => ?_) (by simpa using ev_now _)
      simp only [impl_ArePairs.l0, e, isCall_f, Option.bind_some, hq]
      rw [if_pos (by omega), if_pos (by omega), if_pos (by omega), if_neg (by simp)]
    | true =>
      rw [Bool.true_and]
      by_cases hi0 : i = 0
      · refine ev_step (f := fun k => impl_ArePairs.l0 k n l l (l.length : Int) ((i + 1 : Nat) : Int)) (fun k => ?_) ?_
        · simp only [impl_ArePairs.l0, e, isCall_f, Option.bind_some, hq, if_true]
          rw [if_pos (by omega), if_pos (by omega), if_pos (by omega), if_neg (by omega), w64 (by omega) (by omega)]
          rfl
        · simpa [hi0] using ih (i + 1) (by omega)
      · have e2 : wrap64 ((i : Int) - 1) = ((i - 1 : Nat) : Int) := by rw [w64 (by omega) (by omega)]; omega
        have e3 : rd_T54 l ((i - 1 : Nat) : Int) = l.getD (i - 1) z54 := rfl
        refine ev_step (f := fun k => (impl_compareCalls.f k (l.getD (i - 1) z54).f0 (l.getD (i - 1) z54).f1 (l.getD i z54).f0 (l.getD i z54).f1).bind fun t => if t ≥ 0 then some false else impl_ArePairs.l0 k n l l (l.length : Int) ((i + 1 : Nat) : Int)) (fun k => ?_) ?_
        · simp only [impl_ArePairs.l0, e, isCall_f, Option.bind_some, hq, if_true, e2, e3]
          rw [if_pos (by omega), if_pos (by omega), if_pos (by omega), if_pos (by omega), if_pos (by omega), if_pos (by omega), w64 (by omega) (by omega)]
          rfl
        · refine Ev.bind (compareCalls_ev _ _) ?_
          simp only [cmpP_less]
          cases hl : lessB (l.getD (i - 1) z54) (l.getD i z54) with
          | true => simpa [hi0] using ih (i + 1) (by omega)
          | false => simpa [hi0] using ev_now _
theorem arePairs_ev (n : Int) (l : List S54) (h : l.length ≤ 1048576) : Ev (fun k => impl_ArePairs.f k n l) (arePairsB n l) := by
  unfold impl_ArePairs.f
  have h0 := arePairs_l0 n l h l.length 0 (by omega)
  simpa [prevP, arePairsB] using h0

theorem mn_lt {a b : Int} (h : a < b) : mn a b = a ∧ mx a b = b := by unfold mn mx; constructor <;> split <;> omega
theorem mn_ge {a b : Int} (h : ¬ a < b) : mn a b = b ∧ mx a b = a := by unfold mn mx; constructor <;> split <;> omega
def hasP (l : List S54) (a b : Int) : Bool := l.any (fun c => c.f0 == mn a b && c.f1 == mx a b)
theorem has_self {n : Int} {l : List S54} (h4 : ∀ c ∈ l, isCallB n c.f0 c.f1 = true) (a : Int) : hasP l a a = false := by
  rw [hasP, List.any_eq_false]
  intro c hc
  have := h4 c hc
  simp only [isCallB, Bool.and_eq_true, decide_eq_true_eq] at this
  obtain ⟨e1, e2⟩ := mn_ge (a := a) (b := a) (by omega)
  rw [e1, e2]
  simp only [Bool.and_eq_true, beq_iff_eq, not_and]
  omega
theorem any_at (l : List S54) (p : S54 → Bool) (i : Nat) (h : i < l.length) : (l.drop i).any p = (p (l.getD i z54) || (l.drop (i + 1)).any p) := by
  rw [drop_at l i z54 h, List.any_cons]
theorem caPair_f (a b : Int) : spec_caPair.f a b = some (mn a b, mx a b) := by
  unfold spec_caPair.f spec_l1Least.f spec_l1Most.f
  by_cases h : a < b
  · obtain ⟨e1, e2⟩ := mn_lt h
    by_cases h2 : b < a
    · omega
    · simp [h, h2, e1, e2]
  · obtain ⟨e1, e2⟩ := mn_ge h
    by_cases h2 : b < a
    · simp [h, h2, e1, e2]
    · have : a = b := by omega
      subst this
      simp [e1, e2]
theorem neIs_l0 (l : List S54) (h : l.length ≤ 1048576) (a b : Int) : ∀ (d : Nat) (i : Nat), i + d = l.length →
    Ev (fun k => spec_neIs.l0 k a b l (l.length : Int) (i : Int)) ((l.drop i).any (fun c => c.f0 == mn a b && c.f1 == mx a b)) := by
  intro d
  induction d with
  | zero =>
    intro i hi
    refine ev_step (f := fun _ => some false) (fun k => ?_) ?_
    · simp only [spec_neIs.l0]; rw [if_neg (by omega)]
    · rw [List.drop_eq_nil_of_le (by omega)]; exact ev_now _
  | succ d ih =>
    intro i hi
    rw [any_at l _ i (by omega)]
    cases hq : ((l.getD i z54).f0 == mn a b && (l.getD i z54).f1 == mx a b) with
    | true =>
      refine ev_step (f := fun _ => some true) (fun k => ?_) (by simpa using ev_now _)
      simp only [spec_neIs.l0, caPair_f, Option.bind_some, show rd_T54 l (i : Int) = l.getD i z54 from rfl]
      rw [if_pos (by omega), if_pos (by omega), if_pos (by omega), if_pos hq]
    | false =>
      refine ev_step (f := fun k => spec_neIs.l0 k a b l (l.length : Int) ((i + 1 : Nat) : Int)) (fun k => ?_) (by simpa using ih (i + 1) (by omega))
      simp only [spec_neIs.l0, caPair_f, Option.bind_some, show rd_T54 l (i : Int) = l.getD i z54 from rfl]
      rw [if_pos (by omega), if_pos (by omega), if_pos (by omega), if_neg (by rw [hq]; simp), w64 (by omega) (by omega)]
      rfl
theorem neIs_ev (l : List S54) (h : l.length ≤ 1048576) (a b : Int) : Ev (fun k => spec_neIs.f k l a b) (hasP l a b) := by
  unfold spec_neIs.f
  exact neIs_l0 l h a b l.length 0 (by omega)
theorem index_l0 (l : List S54) (h : l.length ≤ 1048576) (u v : Int) : ∀ (d : Nat) (i : Nat), i + d = l.length →
    ∃ r : Int, Ev (fun k => impl_Call_84.l0 k l (l.length : Int) (i : Int) u v) r ∧ decide (r ≥ 0) = (l.drop i).any (fun c => c.f0 == u && c.f1 == v) := by
  intro d
  induction d with
  | zero =>
    intro i hi
    refine ⟨-1, ev_step (f := fun _ => some (-1)) (fun k => ?_) (ev_now _), ?_⟩
    · simp only [impl_Call_84.l0]; rw [if_neg (by omega)]
    · rw [List.drop_eq_nil_of_le (by omega)]; rfl
  | succ d ih =>
    intro i hi
    rw [any_at l _ i (by omega)]
    cases hq : ((l.getD i z54).f0 == u && (l.getD i z54).f1 == v) with
    | true =>
      refine ⟨(i : Int), ev_step (f := fun _ => some (i : Int)) (fun k => ?_) (ev_now _), ?_⟩
      · simp only [impl_Call_84.l0, show rd_T54 l (i : Int) = l.getD i z54 from rfl]
        have hq' : (u == (l.getD i z54).f0 && v == (l.getD i z54).f1) = true := by rw [← hq]; congr 1 <;> exact Bool.beq_comm
        rw [if_pos (by omega), if_pos (by omega), if_pos (by omega), if_pos hq']
      · simp
    | false =>
      obtain ⟨r, hr, he⟩ := ih (i + 1) (by omega)
      refine ⟨r, ev_step (fun k => ?_) hr, by simpa using he⟩
      simp only [impl_Call_84.l0, show rd_T54 l (i : Int) = l.getD i z54 from rfl]
      have hq' : (u == (l.getD i z54).f0 && v == (l.getD i z54).f1) = false := by rw [← hq]; congr 1 <;> exact Bool.beq_comm
      rw [if_pos (by omega), if_pos (by omega), if_pos (by omega), if_neg (by rw [hq']; simp), w64 (by omega) (by omega)]
      rfl
theorem contains_ev (l : List S54) (h : l.length ≤ 1048576) (u v : Int) : Ev (fun k => impl_Call_65.f k l u v) (l.any (fun c => c.f0 == u && c.f1 == v)) := by
  obtain ⟨r, hr, he⟩ := index_l0 l h u v l.length 0 (by omega)
  rw [List.drop_zero] at he
  rw [← he]
  unfold impl_Call_65.f impl_Call_84.f
  exact Ev.bind hr (ev_now _)
theorem isPair_ev {n : Int} {l : List S54} (h4 : ∀ c ∈ l, isCallB n c.f0 c.f1 = true) (h : l.length ≤ 1048576) (a b : Int) : Ev (fun k => impl_isPair.f k l a b) (hasP l a b) := by
  unfold impl_isPair.f impl_call.f
  by_cases e : a = b
  · subst e
    rw [has_self h4]
    simp only [if_true]
    exact ev_now _
  · simp only [if_neg e, Option.bind_some]
    exact Ev.bind (contains_ev l h _ _) (ev_now _)
def s3 (l : List S54) (w x y : Int) : Nat → Int → List (List Int) → List (List Int)
  | 0, _, acc => acc
  | d + 1, z, acc => s3 l w x y d (z + 1) (if y = x then acc else if y = z then acc else if hasP l w x = true then (if hasP l x y = true then (if hasP l y z = true then (if hasP l z w = true then acc ++ [[w, x, y, z]] else acc) else acc) else acc) else acc)
def s2 (n : Int) (l : List S54) (w x : Int) : Nat → Int → List (List Int) → List (List Int)
  | 0, _, acc => acc
  | d + 1, y, acc => s2 n l w x d (y + 1) (s3 l w x y (n - (x + 1)).toNat (x + 1) acc)
def s1 (n : Int) (l : List S54) (w : Int) : Nat → Int → List (List Int) → List (List Int)
  | 0, _, acc => acc
  | d + 1, x, acc => s1 n l w d (x + 1) (s2 n l w x (n - (w + 1)).toNat (w + 1) acc)
def s0 (n : Int) (l : List S54) : Nat → Int → List (List Int) → List (List Int)
  | 0, _, acc => acc
  | d + 1, w, acc => s0 n l d (w + 1) (s1 n l w (n - (w + 1)).toNat (w + 1) acc)
def Q4 (acc : List (List Int)) : Prop := ∀ e ∈ acc, e.length = 4
theorem s3_ok (l : List S54) (w x y : Int) : ∀ (d : Nat) (z : Int) (acc : List (List Int)), (s3 l w x y d z acc).length ≤ acc.length + d ∧ (Q4 acc → Q4 (s3 l w x y d z acc))
  | 0, _, acc => ⟨Nat.le_refl _, id⟩
  | d + 1, z, acc => by
    have step : ∀ q : List (List Int), (q = acc ∨ q = acc ++ [[w, x, y, z]]) → (s3 l w x y d (z + 1) q).length ≤ acc.length + (d + 1) ∧ (Q4 acc → Q4 (s3 l w x y d (z + 1) q)) := by
      intro q hq
      have ih := s3_ok l w x y d (z + 1) q
      rcases hq with rfl | rfl
      · exact ⟨by omega, ih.2⟩
      · refine ⟨by have := ih.1; simp only [List.length_append, List.length_cons, List.length_nil] at this; omega, fun h => ih.2 ?_⟩
        intro e he
        rcases List.mem_append.1 he with he | he
        · exact h e he
        · rw [List.mem_singleton.1 he]; rfl
    refine step _ ?_
    by_cases h1 : y = x
    · rw [if_pos h1]; exact Or.inl rfl
    rw [if_neg h1]
    by_cases h2 : y = z
    · rw [if_pos h2]; exact Or.inl rfl
    rw [if_neg h2]
    by_cases h3 : hasP l w x = true
    case neg => rw [if_neg h3]; exact Or.inl rfl
    rw [if_pos h3]
    by_cases h4 : hasP l x y = true
    case neg => rw [if_neg h4]; exact Or.inl rfl
    rw [if_pos h4]
    by_cases h5 : hasP l y z = true
    case neg => rw [if_neg h5]; exact Or.inl rfl
    rw [if_pos h5]
    by_cases h6 : hasP l z w = true
    case neg => rw [if_neg h6]; exact Or.inl rfl
    rw [if_pos h6]; exact Or.inr rfl
theorem s2_ok (n : Int) (h2 : n ≤ 10) (l : List S54) (w x : Int) (hx : 0 ≤ x) : ∀ (d : Nat) (y : Int) (acc : List (List Int)), (s2 n l w x d y acc).length ≤ acc.length + 10 * d ∧ (Q4 acc → Q4 (s2 n l w x d y acc))
  | 0, _, acc => ⟨Nat.le_refl _, id⟩
  | d + 1, y, acc => by
    have ih := s2_ok n h2 l w x hx d (y + 1) (s3 l w x y (n - (x + 1)).toNat (x + 1) acc)
    have i3 := s3_ok l w x y (n - (x + 1)).toNat (x + 1) acc
    exact ⟨by have := ih.1; have := i3.1; show (s2 n l w x d (y + 1) _).length ≤ _; omega, fun h => ih.2 (i3.2 h)⟩
theorem s1_ok (n : Int) (h2 : n ≤ 10) (l : List S54) (w : Int) (hw : 0 ≤ w) : ∀ (d : Nat) (x : Int) (acc : List (List Int)), 0 ≤ x → (s1 n l w d x acc).length ≤ acc.length + 100 * d ∧ (Q4 acc → Q4 (s1 n l w d x acc))
  | 0, _, acc, _ => ⟨Nat.le_refl _, id⟩
  | d + 1, x, acc, hx => by
    have ih := s1_ok n h2 l w hw d (x + 1) (s2 n l w x (n - (w + 1)).toNat (w + 1) acc) (by omega)
    have i3 := s2_ok n h2 l w x hx (n - (w + 1)).toNat (w + 1) acc
    exact ⟨by have := ih.1; have := i3.1; show (s1 n l w d (x + 1) _).length ≤ _; omega, fun h => ih.2 (i3.2 h)⟩
theorem s0_ok (n : Int) (h2 : n ≤ 10) (l : List S54) : ∀ (d : Nat) (w : Int) (acc : List (List Int)), 0 ≤ w → (s0 n l d w acc).length ≤ acc.length + 1000 * d ∧ (Q4 acc → Q4 (s0 n l d w acc))
  | 0, _, acc, _ => ⟨Nat.le_refl _, id⟩
  | d + 1, w, acc, hw => by
    have ih := s0_ok n h2 l d (w + 1) (s1 n l w (n - (w + 1)).toNat (w + 1) acc) (by omega)
    have i3 := s1_ok n h2 l w hw (n - (w + 1)).toNat (w + 1) acc (by omega)
    exact ⟨by have := ih.1; have := i3.1; show (s0 n l d (w + 1) _).length ≤ _; omega, fun h => ih.2 (i3.2 h)⟩
def sqP (n : Int) (l : List S54) : List (List Int) := s0 n l n.toNat 0 []
theorem spec_l3 {n : Int} (h1 : 1 ≤ n) (h2 : n ≤ 10) {l : List S54} (h : l.length ≤ 1048576) (h4 : ∀ c ∈ l, isCallB n c.f0 c.f1 = true) (w x y : Int) (hw : 0 ≤ w) (hy : 0 ≤ y ∧ y < n) (r : List (List Int)) : ∀ (d : Nat) (z : Int) (acc : List (List Int)), 0 ≤ z → z + d = n → acc.length + d ≤ 20000 →
    Ev (fun k => spec_neSquares.l2 k n l (s3 l w x y d z acc) w x (y + 1)) r → Ev (fun k => spec_neSquares.l3 k n l acc w x y z) r
  | 0, z, acc, hz, hd, ha, hr => by
    refine Ev.step (fun k => ?_) hr
    simp only [spec_neSquares.l3]
    rw [if_neg (by omega), w64 (by omega) (by omega)]
    rfl
  | d + 1, z, acc, hz, hd, ha, hr => by
    have step : ∀ q : List (List Int), q.length + d ≤ 20000 → Ev (fun k => spec_neSquares.l2 k n l (s3 l w x y d (z + 1) q) w x (y + 1)) r → Ev (fun k => spec_neSquares.l3 k n l q w x y (z + 1)) r :=
      fun q hq => spec_l3 h1 h2 h h4 w x y hw hy r d (z + 1) q (by omega) (by omega) hq
    have la : acc.length < 5864062014805 := by omega
    have st0 := step acc (by omega)
    have st1 := step (acc ++ [[w, x, y, z]]) (by simp only [List.length_append, List.length_cons, List.length_nil]; omega)
    clear step
    simp only [s3] at hr
    refine Ev.step (fun k => by simp only [spec_neSquares.l3]; rw [if_pos (by omega), w64 (x := z + 1) (by omega) (by omega)]) ?_
    by_cases e1 : y = x
    · simp only [if_pos e1] at hr ⊢; exact st0 hr
    simp only [if_neg e1] at hr ⊢
    by_cases e2 : y = z
    · simp only [if_pos e2] at hr ⊢; exact st0 hr
    simp only [if_neg e2] at hr ⊢
    refine Ev.bind (neIs_ev l h w x) ?_
    by_cases e3 : hasP l w x = true
    case neg => simp only [if_neg e3] at hr ⊢; exact st0 hr
    simp only [if_pos e3] at hr ⊢
    refine Ev.bind (neIs_ev l h x y) ?_
    by_cases e4 : hasP l x y = true
    case neg => simp only [if_neg e4] at hr ⊢; exact st0 hr
    simp only [if_pos e4] at hr ⊢
    refine Ev.bind (neIs_ev l h y z) ?_
    by_cases e5 : hasP l y z = true
    case neg => simp only [if_neg e5] at hr ⊢; exact st0 hr
    simp only [if_pos e5] at hr ⊢
    refine Ev.bind (neIs_ev l h z w) ?_
    by_cases e6 : hasP l z w = true
    case neg => simp only [if_neg e6] at hr ⊢; exact st0 hr
    simp only [if_pos e6, if_pos la] at hr ⊢
    exact st1 hr
theorem spec_l2 {n : Int} (h1 : 1 ≤ n) (h2 : n ≤ 10) {l : List S54} (h : l.length ≤ 1048576) (h4 : ∀ c ∈ l, isCallB n c.f0 c.f1 = true) (w x : Int) (hw : 0 ≤ w ∧ w < n) (hx : 0 ≤ x ∧ x < n) (r : List (List Int)) : ∀ (d : Nat) (y : Int) (acc : List (List Int)), 0 ≤ y → y + d = n → acc.length + 10 * d ≤ 20000 →
    Ev (fun k => spec_neSquares.l1 k n l (s2 n l w x d y acc) w (x + 1)) r → Ev (fun k => spec_neSquares.l2 k n l acc w x y) r
  | 0, y, acc, hz, hd, ha, hr => by
    refine Ev.step (fun k => ?_) hr
    simp only [spec_neSquares.l2]
    rw [if_neg (by omega), w64 (by omega) (by omega)]
    rfl
  | d + 1, y, acc, hz, hd, ha, hr => by
    have i3 := s3_ok l w x y (n - (x + 1)).toNat (x + 1) acc
    refine Ev.step (fun k => by simp only [spec_neSquares.l2]; rw [if_pos (by omega), w64 (x := x + 1) (by omega) (by omega)]) ?_
    refine spec_l3 h1 h2 h h4 w x y hw.1 ⟨hz, by omega⟩ r (n - (x + 1)).toNat (x + 1) acc (by omega) (by omega) (by omega) ?_
    exact spec_l2 h1 h2 h h4 w x hw hx r d (y + 1) _ (by omega) (by omega) (by have := i3.1; omega) hr
theorem spec_l1 {n : Int} (h1 : 1 ≤ n) (h2 : n ≤ 10) {l : List S54} (h : l.length ≤ 1048576) (h4 : ∀ c ∈ l, isCallB n c.f0 c.f1 = true) (w : Int) (hw : 0 ≤ w ∧ w < n) (r : List (List Int)) : ∀ (d : Nat) (x : Int) (acc : List (List Int)), 0 ≤ x → x + d = n → acc.length + 100 * d ≤ 20000 →
    Ev (fun k => spec_neSquares.l0 k n l (s1 n l w d x acc) (w + 1)) r → Ev (fun k => spec_neSquares.l1 k n l acc w x) r
  | 0, x, acc, hz, hd, ha, hr => by
    refine Ev.step (fun k => ?_) hr
    simp only [spec_neSquares.l1]
    rw [if_neg (by omega), w64 (by omega) (by omega)]
    rfl
  | d + 1, x, acc, hz, hd, ha, hr => by
    have i3 := s2_ok n h2 l w x hz (n - (w + 1)).toNat (w + 1) acc
    refine Ev.step (fun k => by simp only [spec_neSquares.l1]; rw [if_pos (by omega), w64 (x := w + 1) (by omega) (by omega)]) ?_
    refine spec_l2 h1 h2 h h4 w x hw ⟨hz, by omega⟩ r (n - (w + 1)).toNat (w + 1) acc (by omega) (by omega) (by omega) ?_
    exact spec_l1 h1 h2 h h4 w hw r d (x + 1) _ (by omega) (by omega) (by have := i3.1; omega) hr
theorem spec_l0 {n : Int} (h1 : 1 ≤ n) (h2 : n ≤ 10) {l : List S54} (h : l.length ≤ 1048576) (h4 : ∀ c ∈ l, isCallB n c.f0 c.f1 = true) (r : List (List Int)) : ∀ (d : Nat) (w : Int) (acc : List (List Int)), 0 ≤ w → w + d = n → acc.length + 1000 * d ≤ 20000 → r = s0 n l d w acc →
    Ev (fun k => spec_neSquares.l0 k n l acc w) r
  | 0, w, acc, hz, hd, ha, hr => by
    refine Ev.step (f := fun _ => some acc) (fun k => ?_) (by rw [hr]; exact ev_now _)
    simp only [spec_neSquares.l0]
    rw [if_neg (by omega)]
  | d + 1, w, acc, hz, hd, ha, hr => by
    have i3 := s1_ok n h2 l w hz (n - (w + 1)).toNat (w + 1) acc (by omega)
    refine Ev.step (fun k => by simp only [spec_neSquares.l0]; rw [if_pos (by omega), w64 (x := w + 1) (by omega) (by omega)]) ?_
    refine spec_l1 h1 h2 h h4 w ⟨hz, by omega⟩ r (n - (w + 1)).toNat (w + 1) acc (by omega) (by omega) (by omega) ?_
    exact spec_l0 h1 h2 h h4 r d (w + 1) _ (by omega) (by omega) (by have := i3.1; omega) hr
theorem spec_sq {n : Int} (h1 : 1 ≤ n) (h2 : n ≤ 10) {l : List S54} (h : l.length ≤ 1048576) (h4 : ∀ c ∈ l, isCallB n c.f0 c.f1 = true) : Ev (fun k => spec_neSquares.f k n l) (sqP n l) := by
  unfold spec_neSquares.f
  exact spec_l0 h1 h2 h h4 _ n.toNat 0 [] (by omega) (by omega) (by simp only [List.length_nil]; omega) rfl
theorem impl_l3 {n : Int} (h1 : 1 ≤ n) (h2 : n ≤ 10) {l : List S54} (h : l.length ≤ 1048576) (h4 : ∀ c ∈ l, isCallB n c.f0 c.f1 = true) (w x y : Int) (hw : 0 ≤ w) (hy : 0 ≤ y ∧ y < n) (r : List (List Int)) : ∀ (d : Nat) (z : Int) (acc : List (List Int)), 0 ≤ z → z + d = n → acc.length + d ≤ 20000 →
    Ev (fun k => impl_squares.l2 k n l (s3 l w x y d z acc) w x (y + 1) n w) r → Ev (fun k => impl_squares.l3 k n l acc w x y z n w) r
  | 0, z, acc, hz, hd, ha, hr => by
    refine Ev.step (fun k => ?_) hr
    simp only [impl_squares.l3]
    rw [if_neg (by omega), w64 (by omega) (by omega)]
    rfl
  | d + 1, z, acc, hz, hd, ha, hr => by
    have step : ∀ q : List (List Int), q.length + d ≤ 20000 → Ev (fun k => impl_squares.l2 k n l (s3 l w x y d (z + 1) q) w x (y + 1) n w) r → Ev (fun k => impl_squares.l3 k n l q w x y (z + 1) n w) r :=
      fun q hq => impl_l3 h1 h2 h h4 w x y hw hy r d (z + 1) q (by omega) (by omega) hq
    have la : acc.length < 5864062014805 := by omega
    have st0 := step acc (by omega)
    have st1 := step (acc ++ [[w, x, y, z]]) (by simp only [List.length_append, List.length_cons, List.length_nil]; omega)
    clear step
    simp only [s3] at hr
    refine Ev.step (fun k => by simp only [impl_squares.l3]; rw [if_pos (by omega), w64 (x := z + 1) (by omega) (by omega)]) ?_
    by_cases e1 : y = x
    · simp only [if_pos e1] at hr ⊢; exact st0 hr
    simp only [if_neg e1] at hr ⊢
    by_cases e2 : y = z
    · simp only [if_pos e2] at hr ⊢; exact st0 hr
    simp only [if_neg e2] at hr ⊢
    refine Ev.bind (isPair_ev h4 h w x) ?_
    by_cases e3 : hasP l w x = true
    case neg => simp only [if_neg e3] at hr ⊢; exact st0 hr
    simp only [if_pos e3] at hr ⊢
    refine Ev.bind (isPair_ev h4 h x y) ?_
    by_cases e4 : hasP l x y = true
    case neg => simp only [if_neg e4] at hr ⊢; exact st0 hr
    simp only [if_pos e4] at hr ⊢
    refine Ev.bind (isPair_ev h4 h y z) ?_
    by_cases e5 : hasP l y z = true
    case neg => simp only [if_neg e5] at hr ⊢; exact st0 hr
    simp only [if_pos e5] at hr ⊢
    refine Ev.bind (isPair_ev h4 h z w) ?_
    by_cases e6 : hasP l z w = true
    case neg => simp only [if_neg e6] at hr ⊢; exact st0 hr
    simp only [if_pos e6, if_pos la] at hr ⊢
    exact st1 hr
theorem impl_l2 {n : Int} (h1 : 1 ≤ n) (h2 : n ≤ 10) {l : List S54} (h : l.length ≤ 1048576) (h4 : ∀ c ∈ l, isCallB n c.f0 c.f1 = true) (w x : Int) (hw : 0 ≤ w ∧ w < n) (hx : 0 ≤ x ∧ x < n) (r : List (List Int)) : ∀ (d : Nat) (y : Int) (acc : List (List Int)), 0 ≤ y → y + d = n → acc.length + 10 * d ≤ 20000 →
    Ev (fun k => impl_squares.l1 k n l (s2 n l w x d y acc) w (x + 1) n w) r → Ev (fun k => impl_squares.l2 k n l acc w x y n w) r
  | 0, y, acc, hz, hd, ha, hr => by
    refine Ev.step (fun k => ?_) hr
    simp only [impl_squares.l2]
    rw [if_neg (by omega), w64 (by omega) (by omega)]
    rfl
  | d + 1, y, acc, hz, hd, ha, hr => by
    have i3 := s3_ok l w x y (n - (x + 1)).toNat (x + 1) acc
    refine Ev.step (fun k => by simp only [impl_squares.l2]; rw [if_pos (by omega), w64 (x := x + 1) (by omega) (by omega)]) ?_
    refine impl_l3 h1 h2 h h4 w x y hw.1 ⟨hz, by omega⟩ r (n - (x + 1)).toNat (x + 1) acc (by omega) (by omega) (by omega) ?_
    exact impl_l2 h1 h2 h h4 w x hw hx r d (y + 1) _ (by omega) (by omega) (by have := i3.1; omega) hr
theorem impl_l1 {n : Int} (h1 : 1 ≤ n) (h2 : n ≤ 10) {l : List S54} (h : l.length ≤ 1048576) (h4 : ∀ c ∈ l, isCallB n c.f0 c.f1 = true) (w : Int) (hw : 0 ≤ w ∧ w < n) (r : List (List Int)) : ∀ (d : Nat) (x : Int) (acc : List (List Int)), 0 ≤ x → x + d = n → acc.length + 100 * d ≤ 20000 →
    Ev (fun k => impl_squares.l0 k n l (s1 n l w d x acc) n (w + 1)) r → Ev (fun k => impl_squares.l1 k n l acc w x n w) r
  | 0, x, acc, hz, hd, ha, hr => by
    refine Ev.step (fun k => ?_) hr
    simp only [impl_squares.l1]
    rw [if_neg (by omega), w64 (by omega) (by omega)]
    rfl
  | d + 1, x, acc, hz, hd, ha, hr => by
    have i3 := s2_ok n h2 l w x hz (n - (w + 1)).toNat (w + 1) acc
    refine Ev.step (fun k => by simp only [impl_squares.l1]; rw [if_pos (by omega), w64 (x := w + 1) (by omega) (by omega)]) ?_
    refine impl_l2 h1 h2 h h4 w x hw ⟨hz, by omega⟩ r (n - (w + 1)).toNat (w + 1) acc (by omega) (by omega) (by omega) ?_
    exact impl_l1 h1 h2 h h4 w hw r d (x + 1) _ (by omega) (by omega) (by have := i3.1; omega) hr
theorem impl_l0 {n : Int} (h1 : 1 ≤ n) (h2 : n ≤ 10) {l : List S54} (h : l.length ≤ 1048576) (h4 : ∀ c ∈ l, isCallB n c.f0 c.f1 = true) (r : List (List Int)) : ∀ (d : Nat) (w : Int) (acc : List (List Int)), 0 ≤ w → w + d = n → acc.length + 1000 * d ≤ 20000 → r = s0 n l d w acc →
    Ev (fun k => impl_squares.l0 k n l acc n w) r
  | 0, w, acc, hz, hd, ha, hr => by
    refine Ev.step (f := fun _ => some acc) (fun k => ?_) (by rw [hr]; exact ev_now _)
    simp only [impl_squares.l0]
    rw [if_neg (by omega)]
  | d + 1, w, acc, hz, hd, ha, hr => by
    have i3 := s1_ok n h2 l w hz (n - (w + 1)).toNat (w + 1) acc (by omega)
    refine Ev.step (fun k => by simp only [impl_squares.l0]; rw [if_pos (by omega), w64 (x := w + 1) (by omega) (by omega)]) ?_
    refine impl_l1 h1 h2 h h4 w ⟨hz, by omega⟩ r (n - (w + 1)).toNat (w + 1) acc (by omega) (by omega) (by omega) ?_
    exact impl_l0 h1 h2 h h4 r d (w + 1) _ (by omega) (by omega) (by have := i3.1; omega) hr
theorem impl_sq {n : Int} (h1 : 1 ≤ n) (h2 : n ≤ 10) {l : List S54} (h : l.length ≤ 1048576) (h4 : ∀ c ∈ l, isCallB n c.f0 c.f1 = true) : Ev (fun k => impl_squares.f k n l) (sqP n l) := by
  unfold impl_squares.f
  exact impl_l0 h1 h2 h h4 _ n.toNat 0 [] (by omega) (by omega) (by simp only [List.length_nil]; omega) rfl
theorem sqP_ok {n : Int} (h1 : 1 ≤ n) (h2 : n ≤ 10) (l : List S54) : (sqP n l).length ≤ 10000 ∧ Q4 (sqP n l) := by
  have := s0_ok n h2 l n.toNat 0 [] (by omega)
  refine ⟨?_, this.2 (fun e he => by simp at he)⟩
  have h := this.1
  simp only [List.length_nil] at h
  unfold sqP
  omega


def headP (q : List (List Int)) : List Int × Bool := if (q.length : Int) = 0 then ([], false) else (rd_L3 q 0, true)
def resP (n : Int) (cs : List S54) : List Int × Bool := if arePairsB n cs = true then headP (sqP n cs) else ([], false)
theorem resP_length (n : Int) (cs : List S54) (h : cs.length ≤ 1048576) : (resP n cs).1.length ≤ 1048576 := by
  unfold resP
  split
  · rename_i hg
    obtain ⟨h1, h2, h3⟩ := pairs_45 hg
    have hq := (sqP_ok h1 h2 cs).2
    unfold headP
    split
    · simp
    · rename_i hn
      cases hs : sqP n cs with
      | nil => rw [hs] at hn; exact absurd rfl hn
      | cons a q =>
        have := hq a (by rw [hs]; exact List.mem_cons_self ..)
        show a.length ≤ _
        omega
  · simp
theorem head_ev (q : List (List Int)) : Ev (fun _ => if (q.length : Int) = 0 then some (([] : List Int), false) else (if 0 < (q.length : Int) then some (rd_L3 q 0, true) else none)) (headP q) := by
  unfold headP
  by_cases e : (q.length : Int) = 0
  · simp only [if_pos e]; exact ev_now _
  · have e2 : 0 < (q.length : Int) := by omega
    simp only [if_neg e, if_pos e2]; exact ev_now _
theorem spec_ev (n : Int) (cs : List S54) (h : cs.length ≤ 1048576) : Ev (fun k => spec_FirstSquare.f k n cs) (resP n cs) := by
  unfold spec_FirstSquare.f resP
  refine Ev.bind (neGood_ev n cs h) ?_
  cases hg : arePairsB n cs with
  | false => simpa using ev_now _
  | true =>
    obtain ⟨h1, h2, h3⟩ := pairs_45 hg
    simp only [if_true]
    exact Ev.bind (spec_sq h1 h2 h (arePairs_all hg)) (head_ev _)
theorem impl_ev (n : Int) (cs : List S54) (h : cs.length ≤ 1048576) : Ev (fun k => impl_FirstSquare.f k n cs) (resP n cs) := by
  unfold impl_FirstSquare.f resP
  refine Ev.bind (arePairs_ev n cs h) ?_
  cases hg : arePairsB n cs with
  | false => simpa using ev_now _
  | true =>
    obtain ⟨h1, h2, h3⟩ := pairs_45 hg
    simp only [if_true]
    exact Ev.bind (impl_sq h1 h2 h (arePairs_all hg)) (head_ev _)
theorem FnExactFirstSquare : ∀ (a0 : Int) (l1 : (List S56)), (Lit.int .i64 a0).wf = true → l1.length ≤ 9223372036854775807 → ∃ k, laws_FnExactFirstSquare.f k a0 l1 = some true := by
  intro a0 l1 w0 hl1
  apply Ev.rounds
  unfold laws_FnExactFirstSquare.f
  by_cases h1 : l1.length ≤ 1048576
  · simp only [szCallS_small l1 h1, Option.bind_some]
    have h0 : ¬ (1048576 - (l1.length : Int)) < 0 := by omega
    simp only [if_neg h0]
    have g1 : (toCalls l1).length ≤ 1048576 := by rw [toCalls_length]; exact h1
    refine Ev.bind (toCallS_ev l1 h1) ?_
    refine Ev.bind (spec_ev a0 (toCalls l1) g1) ?_
    refine Ev.bind (toCallS_ev l1 h1) ?_
    refine Ev.bind (impl_ev a0 (toCalls l1) g1) ?_
    have hr : (resP a0 (toCalls l1)).1.length ≤ 1048576 := resP_length a0 (toCalls l1) g1
    have hm2 : ¬ (1 + (((resP a0 (toCalls l1)).1.length : Nat) : Int)) < 0 := by omega
    refine Ev.bind (eqIntS_ev _ hr) ?_
    simp only [bne_self_eq_false, Bool.false_eq_true, if_false, if_true]
    refine Ev.step (fun k => by simp only [laws_FnExactFirstSquare.j0, Bool.false_eq_true, if_false] <;> exact rfl) ?_
    refine Ev.bind (toCallS_ev l1 h1) ?_
    refine Ev.bind (eqCallS_ev _ g1) ?_
    simp only [if_true]
    refine Ev.bind (markCallS_ev _ 1 g1 (by omega) (by omega)) ?_
    have hm11 : ¬ (1 + 2 * (((toCalls l1).length : Nat) : Int)) < 0 := by omega
    simp only [if_neg hm11]
    refine Ev.bind (eqIntS_ev _ hr) ?_
    simp only [bne_self_eq_false, Bool.false_eq_true, if_false, if_true]
    refine Ev.step (fun k => by simp only [laws_FnExactFirstSquare.j1, Bool.false_eq_true, if_false] <;> exact rfl) ?_
    refine Ev.bind (markIntS_ev _ 1 hr (by omega) (by omega)) ?_
    refine Ev.bind (heldIntS_ev _ 1 hr (by omega) (by omega)) ?_
    simp only [if_neg hm2, if_true]
    refine Ev.bind (toCallS_ev l1 h1) ?_
    refine Ev.bind (impl_ev a0 (toCalls l1) g1) ?_
    refine Ev.bind (eqIntS_ev _ hr) ?_
    simp only [bne_self_eq_false, Bool.false_eq_true, if_false, if_true]
    refine Ev.step (fun k => by simp only [laws_FnExactFirstSquare.j2, Bool.false_eq_true, if_false] <;> exact rfl) ?_
    refine Ev.bind (heldIntS_ev _ 1 hr (by omega) (by omega)) ?_
    simp only [if_neg hm2, if_true]
    exact ev_now _
  · simp only [szCallS_great l1 h1 hl1, Option.bind_some]
    exact ev_now _

end Go.Proofs.Ytdlmopgblcakaaa.Pure
