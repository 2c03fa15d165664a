/- The pure side of FnExactAreCallsInNet: program and reference agree at every argument. No condition beside what an argument is. -/
import Derived.Test.YtdlmopgblcakaaaPFnExactAreCallsInNetx17
import Derived.Test.YtdlmopgblcakaaaPBase
namespace Go.Proofs.Ytdlmopgblcakaaa.Pure
open Go.RowKit Go.Proofs.Ytdlmopgblcakaaa.PFnExactAreCallsInNet Go.Proofs.YtdlmopgblcakaaaW.PrintWords Go.Proofs.YtdlmopgblcakaaaW.PrintLast Go.Proofs.YtdlmopgblcakaaaW.PrintMore Go.Proofs.Ytdlmopgblcakaaa.PB
set_option linter.unusedSimpArgs false
set_option linter.unusedVariables false
/-! calls: read, compared, marked -/
def toCalls (l : List S56) : List S54 := l.map fun c => ⟨c.f0, c.f1⟩
theorem toCalls_length (l : List S56) : (toCalls l).length = l.length := by simp [toCalls]

theorem szCallS_small (l : List S56) (h : l.length ≤ 1048576) : laws_szCallS.f l 1048576 = some (1048576 - (l.length : Int)) := by
  unfold laws_szCallS.f
  rw [w64 (by omega) (by omega), if_neg (by omega)]
theorem szCallS_great (l : List S56) (h : ¬ l.length ≤ 1048576) (h2 : l.length ≤ 9223372036854775807) : laws_szCallS.f l 1048576 = some (-1) := by
  unfold laws_szCallS.f
  rw [w64 (by omega) (by omega), if_pos (by omega)]

theorem toCallS_l0 (l : List S56) (h : l.length ≤ 1048576) : ∀ (d : Nat) (i : Int) (acc : List S54), 0 ≤ i → i + d = l.length → acc.length = l.length →
    (∀ j : Nat, (j : Int) < i → acc.getD j z54 = (toCalls l).getD j z54) → Ev (fun k => laws_toCallS.l0 k l acc i) (toCalls l) := by
  intro d
  induction d with
  | zero =>
    intro i acc h0 hi hl hacc
    refine ev_step (f := fun _ => some acc) (fun k => ?_) ?_
    · simp only [laws_toCallS.l0]; rw [if_neg (by omega)]
    · have : acc = toCalls l := ext_getD z54 (by rw [hl, toCalls_length]) (fun j hj => hacc j (by omega))
      rw [this]; exact ev_now _
  | succ d ih =>
    intro i acc h0 hi hl hacc
    refine ev_step (f := fun k => laws_toCallS.l0 k l (acc.set i.toNat ⟨(l.getD i.toNat z56).f0, (l.getD i.toNat z56).f1⟩) (i + 1)) (fun k => ?_) ?_
    · simp only [laws_toCallS.l0, laws_toCall.f, rd_T56, Option.bind_some]
      rw [if_pos (by omega), if_pos h0, if_pos (by omega), w64 (by omega) (by omega)]
    · refine ih (i + 1) _ (by omega) (by omega) (by simpa using hl) (fun j hj => ?_)
      rw [getD_set _ _ _ _ _ (by omega)]
      split
      · rename_i e
        subst e
        rw [toCalls, getD_map (fun c : S56 => (⟨c.f0, c.f1⟩ : S54)) l i.toNat z56 z54 (by omega)]
      · exact hacc j (by omega)
theorem toCallS_ev (l : List S56) (h : l.length ≤ 1048576) : Ev (fun k => laws_toCallS.f k l) (toCalls l) := by
  unfold laws_toCallS.f
  have h1 : (0 : Int) ≤ (l.length : Int) := by omega
  have h2 : ((l.length : Int)).toNat ≤ 17592186044416 := by omega
  simp only [if_pos h1, if_pos h2]
  exact toCallS_l0 l h l.length 0 _ (by omega) (by omega) (by simp) (fun j hj => by omega)

theorem eqCallS_l0 (a : List S54) (h : a.length ≤ 1048576) : ∀ (d : Nat) (i : Int), 0 ≤ i → i + d = a.length → Ev (fun k => laws_eqCallS.l0 k a a i) true := by
  intro d
  induction d with
  | zero =>
    intro i h0 hi
    refine ev_step (f := fun _ => some true) (fun k => ?_) (ev_now _)
    simp only [laws_eqCallS.l0]; rw [if_neg (by omega)]
  | succ d ih =>
    intro i h0 hi
    refine ev_step (f := fun k => laws_eqCallS.l0 k a a (i + 1)) (fun k => ?_) (ih _ (by omega) (by omega))
    simp only [laws_eqCallS.l0, laws_eqCall.f, if_true, Option.bind_some]
    rw [if_pos (by omega), if_pos h0, if_pos (by omega), w64 (by omega) (by omega)]
theorem eqCallS_ev (a : List S54) (h : a.length ≤ 1048576) : Ev (fun k => laws_eqCallS.f k a a) true := by
  unfold laws_eqCallS.f
  simp only [if_true]
  exact eqCallS_l0 a h a.length 0 (by omega) (by omega)

/-! spec.caGood -/
theorem caFriends_f (n : Int) : spec_caFriends.f n = some (decide (1 ≤ n) && decide (n ≤ 10)) := by
  unfold spec_caFriends.f spec_l1In.f
  by_cases h1 : 1 ≤ n <;> by_cases h2 : n ≤ 10 <;> simp [h1, h2]
theorem caCall_f (n a b : Int) (h1 : 1 ≤ n) (h2 : n ≤ 10) : spec_caCall.f n a b = some (isCallB n a b) := by
  unfold spec_caCall.f spec_l1In.f isCallB
  rw [w64 (by omega) (by omega)]
  by_cases g1 : 0 ≤ a
  · by_cases g2 : a ≤ n - 1
    · rw [w64 (by omega) (by omega)]
      by_cases g3 : a + 1 ≤ b <;> by_cases g4 : b ≤ n - 1
      · have e1 : a < b := by omega
        have e2 : b < n := by omega
        simp [g1, g2, g3, g4, e1, e2]
      · have e1 : a < b := by omega
        have e2 : ¬ b < n := by omega
        simp [g1, g2, g3, g4, e1, e2]
      · have e1 : ¬ a < b := by omega
        simp [g1, g2, g3, e1]
      · have e1 : ¬ a < b := by omega
        simp [g1, g2, g3, e1]
    · by_cases g3 : a < b
      · have e2 : ¬ b < n := by omega
        simp [g1, g2, e2]
      · simp [g1, g2, g3]
  · simp [g1]
theorem caGood_l0 (n : Int) (l : List S54) (h : l.length ≤ 1048576) (h1 : 1 ≤ n) (h2 : n ≤ 10) : ∀ (d : Nat) (i : Int), 0 ≤ i → i + d = l.length →
    Ev (fun k => spec_caGood.l0 k n l (l.length : Int) i) ((l.drop i.toNat).all fun c => isCallB n c.f0 c.f1) := by
  intro d
  induction d with
  | zero =>
    intro i h0 hi
    refine ev_step (f := fun _ => some true) (fun k => ?_) ?_
    · simp only [spec_caGood.l0]; rw [if_neg (by omega)]
    · rw [List.drop_eq_nil_of_le (by omega)]; exact ev_now _
  | succ d ih =>
    intro i h0 hi
    have hd := drop_at l i.toNat z54 (by omega)
    cases hq : isCallB n (l.getD i.toNat z54).f0 (l.getD i.toNat z54).f1 with
    | true =>
      refine ev_step (f := fun k => spec_caGood.l0 k n l (l.length : Int) (i + 1)) (fun k => ?_) ?_
      · simp only [spec_caGood.l0, rd_T54, caCall_f n _ _ h1 h2, Option.bind_some, hq, if_true]
        rw [if_pos (by omega), if_pos h0, if_pos (by omega), w64 (by omega) (by omega)]
      · have := ih (i + 1) (by omega) (by omega)
        rw [hd, List.all_cons, hq, Bool.true_and]
        rwa [show (i + 1).toNat = i.toNat + 1 by omega] at this
    | false =>
      refine ev_step (f := fun _ => some false) (fun k => ?_) ?_
      · simp only [spec_caGood.l0, rd_T54, caCall_f n _ _ h1 h2, Option.bind_some, hq]
        rw [if_pos (by omega), if_pos h0, if_pos (by omega), if_neg (by simp)]
      · rw [hd, List.all_cons, hq, Bool.false_and]; exact ev_now _
theorem caGood_ev (n : Int) (l : List S54) (h : l.length ≤ 1048576) : Ev (fun k => spec_caGood.f k n l) (areCallsB n l) := by
  unfold spec_caGood.f
  simp only [caFriends_f, Option.bind_some]
  by_cases h1 : 1 ≤ n ∧ n ≤ 10
  · obtain ⟨h1, h2⟩ := h1
    by_cases h3 : l.length ≤ 60
    · have e : areCallsB n l = l.all fun c => isCallB n c.f0 c.f1 := by simp [areCallsB, h1, h2, h3]
      rw [e]
      have e2 : decide ((l.length : Int) > 60) = false := by rw [decide_eq_false_iff_not]; omega
      simp only [h1, h2, decide_true, Bool.and_self, if_true, e2]
      refine ev_step (f := fun k => spec_caGood.l0 k n l (l.length : Int) 0) (fun k => by simp [spec_caGood.j0]) ?_
      simpa using caGood_l0 n l h h1 h2 l.length 0 (by omega) (by omega)
    · have e : areCallsB n l = false := by simp [areCallsB, h3]
      rw [e]
      have e2 : decide ((l.length : Int) > 60) = true := by rw [decide_eq_true_eq]; omega
      simp only [h1, h2, decide_true, Bool.and_self, if_true, e2]
      exact ev_step (f := fun _ => some false) (fun k => by simp [spec_caGood.j0]) (ev_now _)
  · have e : areCallsB n l = false := by rw [Bool.eq_false_iff]; intro hh; simp [areCallsB] at hh; exact h1 ⟨hh.1, hh.2.1⟩
    have e1 : (decide (1 ≤ n) && decide (n ≤ 10)) = false := by rw [Bool.eq_false_iff]; simpa using h1
    rw [e]
    simp only [e1]
    exact ev_step (f := fun _ => some false) (fun k => by simp [spec_caGood.j0]) (ev_now _)
theorem areCallsB_true {n : Int} {cs : List S54} (h : areCallsB n cs = true) : 1 ≤ n ∧ n ≤ 10 ∧ cs.length ≤ 60 ∧ ∀ c ∈ cs, isCallB n c.f0 c.f1 = true := by
  simp [areCallsB] at h
  exact h

/-! networks: strictly increasing lists of calls -/
theorem isCallB_bd {n a b : Int} (h : isCallB n a b = true) : 0 ≤ a ∧ a < b ∧ b < n := by simpa [isCallB] using h
def lessB (c d : S54) : Bool := decide (c.f0 < d.f0) || (decide (c.f0 = d.f0) && decide (c.f1 < d.f1))
def pairsB (n : Int) : Option S54 → List S54 → Bool
  | _, [] => true
  | none, c :: cs => isCallB n c.f0 c.f1 && pairsB n (some c) cs
  | some p, c :: cs => isCallB n c.f0 c.f1 && (lessB p c && pairsB n (some c) cs)
def friendsB (n : Int) : Bool := decide (1 ≤ n) && decide (n ≤ 10)
def arePairsB (n : Int) (l : List S54) : Bool := friendsB n && pairsB n none l
def codeP (c : S54) : Nat := 10 * c.f0.toNat + c.f1.toNat
def validN (n : Nat) (x : Nat) : Bool := decide (x / 10 < x % 10) && decide (x % 10 < n)
theorem valid_count : ∀ n : Fin 11, (List.range 100).countP (validN n.val) = n.val * (n.val - 1) / 2 := by decide +kernel
theorem valid_code {n : Int} (hn : n ≤ 10) {c : S54} (h : isCallB n c.f0 c.f1 = true) : validN n.toNat (codeP c) = true ∧ codeP c < 100 := by
  obtain ⟨h1, h2, h3⟩ := isCallB_bd h
  have e1 : codeP c / 10 = c.f0.toNat := by unfold codeP; omega
  have e2 : codeP c % 10 = c.f1.toNat := by unfold codeP; omega
  refine ⟨?_, by unfold codeP; omega⟩
  simp only [validN, e1, e2, Bool.and_eq_true, decide_eq_true_eq]
  omega
theorem less_code {n : Int} (hn : n ≤ 10) {c d : S54} (hc : isCallB n c.f0 c.f1 = true) (hd : isCallB n d.f0 d.f1 = true) (h : lessB c d = true) : codeP c < codeP d := by
  obtain ⟨h1, h2, h3⟩ := isCallB_bd hc
  obtain ⟨g1, g2, g3⟩ := isCallB_bd hd
  simp [lessB] at h
  unfold codeP
  omega
theorem range_count (p : Nat → Bool) : ∀ (m s x : Nat), s ≤ x → x < s + m → p x = true → 1 + (List.range' (x + 1) (s + m - (x + 1))).countP p ≤ (List.range' s m).countP p
  | 0, s, x, h1, h2, _ => by omega
  | m + 1, s, x, h1, h2, hp => by
    rw [List.range'_succ, List.countP_cons]
    rcases Nat.lt_or_ge s x with h | h
    · have ih := range_count p m (s + 1) x h (by omega) hp
      rw [show s + (m + 1) - (x + 1) = s + 1 + m - (x + 1) by omega]
      omega
    · have e : x = s := by omega
      subst e
      rw [if_pos hp, show x + (m + 1) - (x + 1) = m by omega]
      omega
theorem pairs_le {n : Int} (hn : n ≤ 10) : ∀ (l : List S54) (p : S54) (_ : isCallB n p.f0 p.f1 = true), pairsB n (some p) l = true → l.length ≤ (List.range' (codeP p + 1) (100 - (codeP p + 1))).countP (validN n.toNat)
  | [], p, _, _ => Nat.zero_le _
  | c :: cs, p, hp, h => by
    simp only [pairsB, Bool.and_eq_true] at h
    obtain ⟨h1, h2, h3⟩ := h
    have ih := pairs_le hn cs c h1 h3
    have v := valid_code hn h1
    have vp := valid_code hn hp
    have lt := less_code hn hp h1 h2
    have := range_count (validN n.toNat) (100 - (codeP p + 1)) (codeP p + 1) (codeP c) lt (by omega) v.1
    rw [show codeP p + 1 + (100 - (codeP p + 1)) - (codeP c + 1) = 100 - (codeP c + 1) by omega] at this
    rw [List.length_cons]
    omega
theorem pairs_length {n : Int} {l : List S54} (h : arePairsB n l = true) : l.length ≤ n.toNat * (n.toNat - 1) / 2 := by
  simp only [arePairsB, friendsB, Bool.and_eq_true, decide_eq_true_eq] at h
  obtain ⟨⟨h1, h2⟩, h3⟩ := h
  have hv := valid_count ⟨n.toNat, by omega⟩
  simp only at hv
  rw [← hv, List.range_eq_range']
  cases l with
  | nil => exact Nat.zero_le _
  | cons c cs =>
    simp only [pairsB, Bool.and_eq_true] at h3
    have v := valid_code h2 h3.1
    have := range_count (validN n.toNat) 100 0 (codeP c) (Nat.zero_le _) (by omega) v.1
    have g := pairs_le h2 cs c h3.1 h3.2
    rw [show 0 + 100 - (codeP c + 1) = 100 - (codeP c + 1) by omega] at this
    rw [List.length_cons]
    omega
theorem pairs_45 {n : Int} {l : List S54} (h : arePairsB n l = true) : 1 ≤ n ∧ n ≤ 10 ∧ l.length ≤ 45 := by
  have hl := pairs_length h
  simp only [arePairsB, friendsB, Bool.and_eq_true, decide_eq_true_eq] at h
  obtain ⟨⟨h1, h2⟩, h3⟩ := h
  have : n.toNat * (n.toNat - 1) ≤ 10 * 9 := Nat.mul_le_mul (by omega) (by omega)
  exact ⟨h1, h2, by omega⟩
theorem pairs_all {n : Int} : ∀ (l : List S54) (o : Option S54), pairsB n o l = true → ∀ c ∈ l, isCallB n c.f0 c.f1 = true
  | [], _, _ => by simp
  | c :: cs, o, h => by
    have h' : isCallB n c.f0 c.f1 = true ∧ pairsB n (some c) cs = true := by
      cases o with
      | none => simpa [pairsB] using h
      | some p => simp only [pairsB, Bool.and_eq_true] at h; exact ⟨h.1, h.2.2⟩
    intro d hd
    rcases List.mem_cons.1 hd with rfl | hd
    · exact h'.1
    · exact pairs_all cs _ h'.2 d hd
theorem arePairs_all {n : Int} {l : List S54} (h : arePairsB n l = true) : ∀ c ∈ l, isCallB n c.f0 c.f1 = true := by
  simp only [arePairsB, Bool.and_eq_true] at h
  exact pairs_all l none h.2
def prevP (l : List S54) (i : Nat) : Option S54 := if i = 0 then none else some (l.getD (i - 1) z54)
theorem pairs_step (n : Int) (l : List S54) (i : Nat) (h : i < l.length) : pairsB n (prevP l i) (l.drop i) = (isCallB n (l.getD i z54).f0 (l.getD i z54).f1 && ((i = 0 || lessB (l.getD (i - 1) z54) (l.getD i z54)) && pairsB n (prevP l (i + 1)) (l.drop (i + 1)))) := by
  rw [drop_at l i z54 h]
  have e : prevP l (i + 1) = some (l.getD i z54) := by simp [prevP]
  rw [e]
  unfold prevP
  by_cases hi : i = 0
  · rw [if_pos hi]; simp [pairsB, hi]
  · rw [if_neg hi]; simp [pairsB, hi]
theorem neFriends_f (n : Int) : spec_neFriends.f n = some (friendsB n) := by
  unfold spec_neFriends.f spec_l1In.f friendsB
  by_cases h1 : 1 ≤ n <;> by_cases h2 : n ≤ 10 <;> simp [h1, h2]
theorem areFriendsN_f (n : Int) : impl_areFriends.f n = some (friendsB n) := by
  unfold impl_areFriends.f impl_within.f friendsB
  by_cases h1 : 1 ≤ n <;> by_cases h2 : n ≤ 10 <;> simp [h1, h2]
theorem neLess_f (c d : S54) : spec_neLess.f c.f0 c.f1 d.f0 d.f1 = some (lessB c d) := by
  unfold spec_neLess.f lessB
  by_cases h1 : c.f0 < d.f0
  · simp [h1]
  · by_cases h2 : c.f0 = d.f0 <;> simp [h1, h2]
theorem neGood_l0 (n : Int) (l : List S54) (h : l.length ≤ 1048576) (h1 : 1 ≤ n) (h2 : n ≤ 10) : ∀ (d : Nat) (i : Nat), i + d = l.length →
    Ev (fun k => spec_neGood.l0 k n l l (l.length : Int) (i : Int)) (pairsB n (prevP l i) (l.drop i)) := by
  intro d
  induction d with
  | zero =>
    intro i hi
    refine ev_step (f := fun _ => some true) (fun k => ?_) ?_
    · simp only [spec_neGood.l0]; rw [if_neg (by omega)]
    · rw [List.drop_eq_nil_of_le (by omega)]; exact ev_now _
  | succ d ih =>
    intro i hi
    rw [pairs_step n l i (by omega)]
    have e : rd_T54 l (i : Int) = l.getD i z54 := rfl
    cases hq : isCallB n (l.getD i z54).f0 (l.getD i z54).f1 with
    | false =>
      refine ev_step (f := fun _ => some false) (fun k => ?_) (ev_now _)
      simp only [spec_neGood.l0, e, caCall_f n _ _ h1 h2, Option.bind_some, hq]
      rw [if_pos (by omega), if_pos (by omega), if_pos (by omega), if_neg (by simp)]
    | true =>
      rw [Bool.true_and]
      by_cases hi0 : i = 0
      · refine ev_step (f := fun k => spec_neGood.l0 k n l l (l.length : Int) ((i + 1 : Nat) : Int)) (fun k => ?_) ?_
        · simp only [spec_neGood.l0, e, caCall_f n _ _ h1 h2, Option.bind_some, hq, if_true]
          rw [if_pos (by omega), if_pos (by omega), if_pos (by omega), if_neg (by omega), w64 (by omega) (by omega)]
          rfl
        · simpa [hi0] using ih (i + 1) (by omega)
      · have e2 : wrap64 ((i : Int) - 1) = ((i - 1 : Nat) : Int) := by rw [w64 (by omega) (by omega)]; omega
        have e3 : rd_T54 l ((i - 1 : Nat) : Int) = l.getD (i - 1) z54 := rfl
        cases hl : lessB (l.getD (i - 1) z54) (l.getD i z54) with
        | true =>
          refine ev_step (f := fun k => spec_neGood.l0 k n l l (l.length : Int) ((i + 1 : Nat) : Int)) (fun k => ?_) ?_
          · simp only [spec_neGood.l0, e, caCall_f n _ _ h1 h2, Option.bind_some, hq, if_true, e2, e3, neLess_f, hl]
            rw [if_pos (by omega), if_pos (by omega), if_pos (by omega), if_pos (by omega), if_pos (by omega), if_pos (by omega), w64 (by omega) (by omega)]
            rfl
          · simpa [hi0] using ih (i + 1) (by omega)
        | false =>
          refine ev_step (f := fun _ => some false) (fun k => ?_) ?_
          · simp only [spec_neGood.l0, e, caCall_f n _ _ h1 h2, Option.bind_some, hq, if_true, e2, e3, neLess_f, hl]
            rw [if_pos (by omega), if_pos (by omega), if_pos (by omega), if_pos (by omega), if_pos (by omega), if_pos (by omega), if_neg (by simp)]
          · simpa [hi0] using ev_now _
theorem most_pairs : ∀ n : Fin 11, wrap64 (Int.tdiv (wrap64 ((n.val : Int) * (wrap64 ((n.val : Int) - 1)))) 2) = ((n.val * (n.val - 1) / 2 : Nat) : Int) := by decide +kernel
theorem neGood_ev (n : Int) (l : List S54) (h : l.length ≤ 1048576) : Ev (fun k => spec_neGood.f k n l) (arePairsB n l) := by
  unfold spec_neGood.f
  simp only [neFriends_f, Option.bind_some]
  cases hf : friendsB n with
  | false =>
    have e : arePairsB n l = false := by simp [arePairsB, hf]
    rw [e]
    exact ev_step (f := fun _ => some false) (fun k => by simp [spec_neGood.j0]) (ev_now _)
  | true =>
    have hf' : 1 ≤ n ∧ n ≤ 10 := by simpa [friendsB] using hf
    have hm := most_pairs ⟨n.toNat, by omega⟩
    simp only [show ((n.toNat : Nat) : Int) = n by omega] at hm
    simp only [if_true, hm]
    by_cases hl : (l.length : Int) > ((n.toNat * (n.toNat - 1) / 2 : Nat) : Int)
    · have e : arePairsB n l = false := by
        rw [Bool.eq_false_iff]; intro hh
        have := pairs_length hh
        omega
      rw [e, decide_eq_true hl]
      exact ev_step (f := fun _ => some false) (fun k => by simp [spec_neGood.j0]) (ev_now _)
    · rw [decide_eq_false hl]
      have e : arePairsB n l = pairsB n none l := by simp [arePairsB, hf]
      rw [e]
      refine ev_step (f := fun k => spec_neGood.l0 k n l l (l.length : Int) 0) (fun k => by simp [spec_neGood.j0]) ?_
      simpa [prevP] using neGood_l0 n l h hf'.1 hf'.2 l.length 0 (by omega)
theorem compare_f (a b : Int) : cmp_Compare_int.f a b = some (if a < b then -1 else if a > b then 1 else 0) := by
  unfold cmp_Compare_int.f cmp_isNaN_int.f
  simp only [Option.bind_some, bne_self_eq_false, Bool.false_eq_true, if_false]
  split
  · rfl
  · split <;> rfl
def cmpP (c d : S54) : Int := if c.f0 < d.f0 then -1 else if c.f0 > d.f0 then 1 else if c.f1 < d.f1 then -1 else if c.f1 > d.f1 then 1 else 0
theorem or2_f (x y : Int) (k : Nat) : cmp_Or_int.f (k + 3) [x, y] = some (if x = 0 then y else x) := by
  unfold cmp_Or_int.f
  by_cases hx : x = 0
  · by_cases hy : y = 0
    · simp [cmp_Or_int.l0, rd, hx, hy, wrap64]
    · simp [cmp_Or_int.l0, rd, hx, hy, wrap64]
  · simp [cmp_Or_int.l0, rd, hx, wrap64]
theorem compareCalls_ev (c d : S54) : Ev (fun k => impl_compareCalls.f k c.f0 c.f1 d.f0 d.f1) (cmpP c d) := by
  refine ⟨3, fun k hk => ?_⟩
  obtain ⟨j, rfl⟩ : ∃ j, k = j + 3 := ⟨k - 3, by omega⟩
  unfold impl_compareCalls.f
  simp only [compare_f, Option.bind_some, or2_f]
  congr 1
  unfold cmpP
  by_cases h1 : c.f0 < d.f0
  · simp [h1]
  · by_cases h2 : c.f0 > d.f0
    · simp [h1, h2]
    · simp [h1, h2]
theorem cmpP_less (c d : S54) : (cmpP c d ≥ 0) = (lessB c d = false) := by
  unfold cmpP lessB
  by_cases h1 : c.f0 < d.f0
  · simp [h1]
  · by_cases h2 : c.f0 > d.f0
    · have h3 : ¬ c.f0 = d.f0 := by omega
      simp [h1, h2, h3]
    · have h3 : c.f0 = d.f0 := by omega
      by_cases h4 : c.f1 < d.f1
      · simp [h3, h4]
      · by_cases h5 : c.f1 > d.f1 <;> simp [h3, h4, h5]
theorem arePairs_l0 (n : Int) (l : List S54) (h : l.length ≤ 1048576) : ∀ (d : Nat) (i : Nat), i + d = l.length →
    Ev (fun k => impl_ArePairs.l0 k n l l (l.length : Int) (i : Int)) (friendsB n && pairsB n (prevP l i) (l.drop i)) := by
  intro d
  induction d with
  | zero =>
    intro i hi
    refine ev_step (f := fun _ => some (friendsB n)) (fun k => ?_) ?_
    · simp only [impl_ArePairs.l0, areFriendsN_f, Option.bind_some]; rw [if_neg (by omega)]
    · rw [List.drop_eq_nil_of_le (by omega)]; simpa [pairsB] using ev_now _
  | succ d ih =>
    intro i hi
    rw [pairs_step n l i (by omega)]
    have e : rd_T54 l (i : Int) = l.getD i z54 := rfl
    cases hq : isCallB n (l.getD i z54).f0 (l.getD i z54).f1 with
    | false =>
      refine ev_step (f := fun _ => some false) (fun k => ?_) (by simpa using ev_now _)
      simp only [impl_ArePairs.l0, e, isCall_f, Option.bind_some, hq]
      rw [if_pos (by omega), if_pos (by omega), if_pos (by omega), if_neg (by simp)]
    | true =>
      rw [Bool.true_and]
      by_cases hi0 : i = 0
      · refine ev_step (f := fun k => impl_ArePairs.l0 k n l l (l.length : Int) ((i + 1 : Nat) : Int)) (fun k => ?_) ?_
        · simp only [impl_ArePairs.l0, e, isCall_f, Option.bind_some, hq, if_true]
          rw [if_pos (by omega), if_pos (by omega), if_pos (by omega), if_neg (by omega), w64 (by omega) (by omega)]
          rfl
        · simpa [hi0] using ih (i + 1) (by omega)
      · have e2 : wrap64 ((i : Int) - 1) = ((i - 1 : Nat) : Int) := by rw [w64 (by omega) (by omega)]; omega
        have e3 : rd_T54 l ((i - 1 : Nat) : Int) = l.getD (i - 1) z54 := rfl
        refine ev_step (f := fun k => (impl_compareCalls.f k (l.getD (i - 1) z54).f0 (l.getD (i - 1) z54).f1 (l.getD i z54).f0 (l.getD i z54).f1).bind fun t => if t ≥ 0 then some false else impl_ArePairs.l0 k n l l (l.length : Int) ((i + 1 : Nat) : Int)) (fun k => ?_) ?_
        · simp only [impl_ArePairs.l0, e, isCall_f, Option.bind_some, hq, if_true, e2, e3]
          rw [if_pos (by omega), if_pos (by omega), if_pos (by omega), if_pos (by omega), if_pos (by omega), if_pos (by omega), w64 (by omega) (by omega)]
          rfl
        · refine Ev.bind (compareCalls_ev _ _) ?_
          simp only [cmpP_less]
          cases hl : lessB (l.getD (i - 1) z54) (l.getD i z54) with
          | true => simpa [hi0] using ih (i + 1) (by omega)
          | false => simpa [hi0] using ev_now _
theorem arePairs_ev (n : Int) (l : List S54) (h : l.length ≤ 1048576) : Ev (fun k => impl_ArePairs.f k n l) (arePairsB n l) := by
  unfold impl_ArePairs.f
  have h0 := arePairs_l0 n l h l.length 0 (by omega)
  simpa [prevP, arePairsB] using h0

theorem mn_lt {a b : Int} (h : a < b) : mn a b = a ∧ mx a b = b := by unfold mn mx; constructor <;> split <;> omega
theorem mn_ge {a b : Int} (h : ¬ a < b) : mn a b = b ∧ mx a b = a := by unfold mn mx; constructor <;> split <;> omega
def hasP (l : List S54) (a b : Int) : Bool := l.any (fun c => c.f0 == mn a b && c.f1 == mx a b)
theorem any_at (l : List S54) (p : S54 → Bool) (i : Nat) (h : i < l.length) : (l.drop i).any p = (p (l.getD i z54) || (l.drop (i + 1)).any p) := by
  rw [drop_at l i z54 h, List.any_cons]
theorem caPair_f (a b : Int) : spec_caPair.f a b = some (mn a b, mx a b) := by
  unfold spec_caPair.f spec_l1Least.f spec_l1Most.f
  by_cases h : a < b
  · obtain ⟨e1, e2⟩ := mn_lt h
    by_cases h2 : b < a
    · omega
    · simp [h, h2, e1, e2]
  · obtain ⟨e1, e2⟩ := mn_ge h
    by_cases h2 : b < a
    · simp [h, h2, e1, e2]
    · have : a = b := by omega
      subst this
      simp [e1, e2]
theorem neIs_l0 (l : List S54) (h : l.length ≤ 1048576) (a b : Int) : ∀ (d : Nat) (i : Nat), i + d = l.length →
    Ev (fun k => spec_neIs.l0 k a b l (l.length : Int) (i : Int)) ((l.drop i).any (fun c => c.f0 == mn a b && c.f1 == mx a b)) := by
  intro d
  induction d with
  | zero =>
    intro i hi
    refine ev_step (f := fun _ => some false) (fun k => ?_) ?_
    · simp only [spec_neIs.l0]; rw [if_neg (by omega)]
    · rw [List.drop_eq_nil_of_le (by omega)]; exact ev_now _
  | succ d ih =>
    intro i hi
    rw [any_at l _ i (by omega)]
    cases hq : ((l.getD i z54).f0 == mn a b && (l.getD i z54).f1 == mx a b) with
    | true =>
      refine ev_step (f := fun _ => some true) (fun k => ?_) (by simpa using ev_now _)
      simp only [spec_neIs.l0, caPair_f, Option.bind_some, show rd_T54 l (i : Int) = l.getD i z54 from rfl]
      rw [if_pos (by omega), if_pos (by omega), if_pos (by omega), if_pos hq]
    | false =>
      refine ev_step (f := fun k => spec_neIs.l0 k a b l (l.length : Int) ((i + 1 : Nat) : Int)) (fun k => ?_) (by simpa using ih (i + 1) (by omega))
      simp only [spec_neIs.l0, caPair_f, Option.bind_some, show rd_T54 l (i : Int) = l.getD i z54 from rfl]
      rw [if_pos (by omega), if_pos (by omega), if_pos (by omega), if_neg (by rw [hq]; simp), w64 (by omega) (by omega)]
      rfl
theorem neIs_ev (l : List S54) (h : l.length ≤ 1048576) (a b : Int) : Ev (fun k => spec_neIs.f k l a b) (hasP l a b) := by
  unfold spec_neIs.f
  exact neIs_l0 l h a b l.length 0 (by omega)


def resP (n : Int) (ps cs : List S54) : Bool × Bool := if arePairsB n ps = true then (if areCallsB n cs = true then (!(cs.any fun c => !hasB ps c.f0 c.f1), true) else (false, false)) else (false, false)
theorem hasP_B {n : Int} (ps : List S54) {a b : Int} (h : isCallB n a b = true) : hasP ps a b = hasB ps a b := by
  simp only [isCallB, Bool.and_eq_true, decide_eq_true_eq] at h
  obtain ⟨e1, e2⟩ := mn_lt h.2.1
  unfold hasP hasB
  rw [e1, e2]
theorem spec_l0 {n : Int} {ps cs : List S54} (hp : ps.length ≤ 1048576) (h : cs.length ≤ 1048576) (h4 : ∀ c ∈ cs, isCallB n c.f0 c.f1 = true) : ∀ (d i : Nat), i + d = cs.length →
    Ev (fun k => spec_AreCallsInNet.l0 k ps cs (cs.length : Int) (i : Int)) (!((cs.drop i).any fun c => !hasB ps c.f0 c.f1), true) := by
  intro d
  induction d with
  | zero =>
    intro i hi
    refine ev_step (f := fun _ => some (true, true)) (fun k => ?_) ?_
    · simp only [spec_AreCallsInNet.l0]; rw [if_neg (by omega)]
    · rw [List.drop_eq_nil_of_le (by omega)]; exact ev_now _
  | succ d ih =>
    intro i hi
    have hlt : i < cs.length := by omega
    have hc := h4 (cs.getD i z54) (by rw [getD_at _ _ _ hlt]; exact List.getElem_mem _)
    rw [any_at cs _ i hlt]
    have q0 : (i : Int) < (cs.length : Int) := by omega
    have q1 : (0 : Int) ≤ (i : Int) := by omega
    have e : wrap64 ((i : Int) + 1) = ((i + 1 : Nat) : Int) := by rw [w64 (by omega) (by omega)]; omega
    refine Ev.step (fun k => by simp only [spec_AreCallsInNet.l0, if_pos q0, if_pos q1, e, show rd_T54 cs (i : Int) = cs.getD i z54 from rfl] <;> exact rfl) ?_
    refine Ev.bind (neIs_ev ps hp _ _) ?_
    rw [hasP_B ps hc]
    cases hq : hasB ps (cs.getD i z54).f0 (cs.getD i z54).f1 with
    | true => simpa using ih (i + 1) (by omega)
    | false => simpa using ev_now _
theorem spec_ev (n : Int) (ps cs : List S54) (hp : ps.length ≤ 1048576) (h : cs.length ≤ 1048576) : Ev (fun k => spec_AreCallsInNet.f k n ps cs) (resP n ps cs) := by
  unfold spec_AreCallsInNet.f resP
  refine Ev.bind (neGood_ev n ps hp) ?_
  cases hg : arePairsB n ps with
  | false =>
    simp only [Bool.false_eq_true, if_false]
    exact Ev.step (fun k => by simp only [spec_AreCallsInNet.j0, if_true] <;> exact rfl) (ev_now _)
  | true =>
    simp only [if_true]
    refine Ev.bind (caGood_ev n cs h) ?_
    cases hg2 : areCallsB n cs with
    | false =>
      simp only [Bool.false_eq_true, if_false]
      exact Ev.step (fun k => by simp only [spec_AreCallsInNet.j0, Bool.not_false, if_true] <;> exact rfl) (ev_now _)
    | true =>
      obtain ⟨h1, h2, h3, h4⟩ := areCallsB_true hg2
      simp only [if_true]
      refine Ev.step (fun k => by simp only [spec_AreCallsInNet.j0, Bool.not_true, Bool.false_eq_true, if_false] <;> exact rfl) ?_
      exact spec_l0 hp h h4 cs.length 0 (by omega)
theorem impl_ev (n : Int) (ps cs : List S54) (hp : ps.length ≤ 1048576) (h : cs.length ≤ 1048576) : Ev (fun k => impl_AreCallsInNet.f k n ps cs) (resP n ps cs) := by
  unfold impl_AreCallsInNet.f resP impl_AreCalls.f
  refine Ev.bind (arePairs_ev n ps hp) ?_
  cases hg : arePairsB n ps with
  | false => simpa using ev_now _
  | true =>
    simp only [if_true, Option.bind_some]
    cases hg2 : areCallsB n cs with
    | false => simpa using ev_now _
    | true =>
      simp only [if_true, if_pos hp]
      exact ev_now _
theorem szCallS_at (l : List S56) (left : Int) (h0 : 0 ≤ left) (h1 : left ≤ 1048576) (h2 : l.length ≤ 9223372036854775807) : laws_szCallS.f l left = some (if (l.length : Int) ≤ left then left - (l.length : Int) else -1) := by
  unfold laws_szCallS.f
  rw [w64 (by omega) (by omega)]
  by_cases h : (l.length : Int) ≤ left
  · rw [if_neg (by omega), if_pos h]
  · rw [if_pos (by omega), if_neg h]
theorem FnExactAreCallsInNet : ∀ (a0 : Int) (l1 : (List S56)) (l2 : (List S56)), (Lit.int .i64 a0).wf = true → l1.length ≤ 9223372036854775807 → l2.length ≤ 9223372036854775807 → ∃ k, laws_FnExactAreCallsInNet.f k a0 l1 l2 = some true := by
  intro a0 l1 l2 w0 hl1 hl2
  apply Ev.rounds
  unfold laws_FnExactAreCallsInNet.f
  by_cases h1 : l1.length ≤ 1048576
  case neg =>
    simp only [szCallS_great l1 h1 hl1, Option.bind_some]
    exact ev_now _
  have h0 : ¬ (1048576 - (l1.length : Int)) < 0 := by omega
  simp only [szCallS_small l1 h1, Option.bind_some, if_neg h0, szCallS_at l2 (1048576 - (l1.length : Int)) (by omega) (by omega) hl2]
  by_cases h2 : (l2.length : Int) ≤ 1048576 - (l1.length : Int)
  case neg =>
    simp only [if_neg h2]
    exact ev_now _
  have h3 : ¬ (1048576 - (l1.length : Int) - (l2.length : Int)) < 0 := by omega
  simp only [if_pos h2, if_neg h3]
  have k2 : l2.length ≤ 1048576 := by omega
  have g1 : (toCalls l1).length ≤ 1048576 := by rw [toCalls_length]; exact h1
  have g2 : (toCalls l2).length ≤ 1048576 := by rw [toCalls_length]; exact k2
  refine Ev.bind (toCallS_ev l1 h1) ?_
  refine Ev.bind (toCallS_ev l2 k2) ?_
  refine Ev.bind (spec_ev a0 (toCalls l1) (toCalls l2) g1 g2) ?_
  refine Ev.bind (toCallS_ev l1 h1) ?_
  refine Ev.bind (toCallS_ev l2 k2) ?_
  refine Ev.bind (impl_ev a0 (toCalls l1) (toCalls l2) g1 g2) ?_
  simp only [bne_self_eq_false, Bool.false_eq_true, if_false]
  refine Ev.step (fun k => by simp only [laws_FnExactAreCallsInNet.j0, Bool.false_eq_true, if_false] <;> exact rfl) ?_
  refine Ev.bind (toCallS_ev l1 h1) ?_
  refine Ev.bind (eqCallS_ev _ g1) ?_
  simp only [if_true]
  refine Ev.bind (toCallS_ev l2 k2) ?_
  refine Ev.bind (eqCallS_ev _ g2) ?_
  simp only [if_true]
  exact ev_now _

end Go.Proofs.Ytdlmopgblcakaaa.Pure
