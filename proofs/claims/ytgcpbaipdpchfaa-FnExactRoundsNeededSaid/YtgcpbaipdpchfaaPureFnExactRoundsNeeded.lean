/- The pure side of FnExactRoundsNeeded: program and reference agree at every argument. No condition beside what an argument is. -/
import Derived.Test.YtgcpbaipdpchfaaPFnExactRoundsNeededx21
import Derived.Test.YtgcpbaipdpchfaaPBase
import Derived.Test.YtgcpbaipdpchfaaHContRow
import Derived.Test.YtgcpbaipdpchfaaHNeeded
import Derived.Test.YtgcpbaipdpchfaaHBits
namespace Go.Proofs.Ytgcpbaipdpchfaa.Pure
open Go.RowKit Go.Proofs.Ytgcpbaipdpchfaa.PFnExactRoundsNeeded Go.Proofs.YtgcpbaipdpchfaaW.PrintWords Go.Proofs.YtgcpbaipdpchfaaW.PrintLast Go.Proofs.YtgcpbaipdpchfaaW.PrintMore Go.Proofs.Ytgcpbaipdpchfaa.PB
set_option linter.unusedSimpArgs false
set_option linter.unusedVariables false
/-! calls: read, compared, marked -/
def toCalls (l : List S63) : List S54 := l.map fun c => ⟨c.f0, c.f1⟩
theorem toCalls_length (l : List S63) : (toCalls l).length = l.length := by simp [toCalls]

theorem szCallS_small (l : List S63) (h : l.length ≤ 1048576) : laws_szCallS.f l 1048576 = some (1048576 - (l.length : Int)) := by
  unfold laws_szCallS.f
  rw [w64 (by omega) (by omega), if_neg (by omega)]
theorem szCallS_great (l : List S63) (h : ¬ l.length ≤ 1048576) (h2 : l.length ≤ 9223372036854775807) : laws_szCallS.f l 1048576 = some (-1) := by
  unfold laws_szCallS.f
  rw [w64 (by omega) (by omega), if_pos (by omega)]

theorem toCallS_l0 (l : List S63) (h : l.length ≤ 1048576) : ∀ (d : Nat) (i : Int) (acc : List S54), 0 ≤ i → i + d = l.length → acc.length = l.length →
    (∀ j : Nat, (j : Int) < i → acc.getD j z54 = (toCalls l).getD j z54) → Ev (fun k => laws_toCallS.l0 k l acc i) (toCalls l) := by
  intro d
  induction d with
  | zero =>
    intro i acc h0 hi hl hacc
    refine ev_step (f := fun _ => some acc) (fun k => ?_) ?_
    · simp only [laws_toCallS.l0]; rw [if_neg (by omega)]
    · have : acc = toCalls l := ext_getD z54 (by rw [hl, toCalls_length]) (fun j hj => hacc j (by omega))
      rw [this]; exact ev_now _
  | succ d ih =>
    intro i acc h0 hi hl hacc
    refine ev_step (f := fun k => laws_toCallS.l0 k l (acc.set i.toNat ⟨(l.getD i.toNat z63).f0, (l.getD i.toNat z63).f1⟩) (i + 1)) (fun k => ?_) ?_
    · simp only [laws_toCallS.l0, laws_toCall.f, rd_T63, Option.bind_some]
      rw [if_pos (by omega), if_pos h0, if_pos (by omega), w64 (by omega) (by omega)]
    · refine ih (i + 1) _ (by omega) (by omega) (by simpa using hl) (fun j hj => ?_)
      rw [getD_set _ _ _ _ _ (by omega)]
      split
      · rename_i e
        subst e
        rw [toCalls, getD_map (fun c : S63 => (⟨c.f0, c.f1⟩ : S54)) l i.toNat z63 z54 (by omega)]
      · exact hacc j (by omega)
theorem toCallS_ev (l : List S63) (h : l.length ≤ 1048576) : Ev (fun k => laws_toCallS.f k l) (toCalls l) := by
  unfold laws_toCallS.f
  have h1 : (0 : Int) ≤ (l.length : Int) := by omega
  have h2 : ((l.length : Int)).toNat ≤ 17592186044416 := by omega
  simp only [if_pos h1, if_pos h2]
  exact toCallS_l0 l h l.length 0 _ (by omega) (by omega) (by simp) (fun j hj => by omega)

theorem eqCallS_l0 (a : List S54) (h : a.length ≤ 1048576) : ∀ (d : Nat) (i : Int), 0 ≤ i → i + d = a.length → Ev (fun k => laws_eqCallS.l0 k a a i) true := by
  intro d
  induction d with
  | zero =>
    intro i h0 hi
    refine ev_step (f := fun _ => some true) (fun k => ?_) (ev_now _)
    simp only [laws_eqCallS.l0]; rw [if_neg (by omega)]
  | succ d ih =>
    intro i h0 hi
    refine ev_step (f := fun k => laws_eqCallS.l0 k a a (i + 1)) (fun k => ?_) (ih _ (by omega) (by omega))
    simp only [laws_eqCallS.l0, laws_eqCall.f, if_true, Option.bind_some]
    rw [if_pos (by omega), if_pos h0, if_pos (by omega), w64 (by omega) (by omega)]
theorem eqCallS_ev (a : List S54) (h : a.length ≤ 1048576) : Ev (fun k => laws_eqCallS.f k a a) true := by
  unfold laws_eqCallS.f
  simp only [if_true]
  exact eqCallS_l0 a h a.length 0 (by omega) (by omega)

/-! calls: marked -/
def markedC (n : Nat) (m : Int) : List S54 := (List.range n).map fun i : Nat => ⟨m + 2 * (i : Int), m + 2 * (i : Int) + 1⟩
def isCallB (n a b : Int) : Bool := decide (0 ≤ a) && (decide (a < b) && decide (b < n))
theorem isCall_f (n a b : Int) : impl_isCall.f n a b = some (isCallB n a b) := by
  unfold impl_isCall.f isCallB
  by_cases h1 : 0 ≤ a <;> by_cases h2 : a < b <;> by_cases h3 : b < n <;> simp [h1, h2, h3]

theorem caCall_f (n a b : Int) (h1 : 1 ≤ n) (h2 : n ≤ 10) : spec_caCall.f n a b = some (isCallB n a b) := by
  unfold spec_caCall.f spec_l1In.f isCallB
  rw [w64 (by omega) (by omega)]
  by_cases g1 : 0 ≤ a
  · by_cases g2 : a ≤ n - 1
    · rw [w64 (by omega) (by omega)]
      by_cases g3 : a + 1 ≤ b <;> by_cases g4 : b ≤ n - 1
      · have e1 : a < b := by omega
        have e2 : b < n := by omega
        simp [g1, g2, g3, g4, e1, e2]
      · have e1 : a < b := by omega
        have e2 : ¬ b < n := by omega
        simp [g1, g2, g3, g4, e1, e2]
      · have e1 : ¬ a < b := by omega
        simp [g1, g2, g3, e1]
      · have e1 : ¬ a < b := by omega
        simp [g1, g2, g3, e1]
    · by_cases g3 : a < b
      · have e2 : ¬ b < n := by omega
        simp [g1, g2, e2]
      · simp [g1, g2, g3]
  · simp [g1]

/-! spec.caGood -/
theorem caFriends_f (n : Int) : spec_caFriends.f n = some (decide (1 ≤ n) && decide (n ≤ 10)) := by
  unfold spec_caFriends.f spec_l1In.f
  by_cases h1 : 1 ≤ n <;> by_cases h2 : n ≤ 10 <;> simp [h1, h2]
/-! news: what friends know, as numbers below 2^n -/
def orI (a b : Int) : Int := ((a.toNat ||| b.toNat : Nat) : Int)
def startP (n : Nat) : List Int := (List.range n).map fun i => ((2 ^ i : Nat) : Int)
def SmallP (n : Nat) (l : List Int) : Prop := l.length = n ∧ ∀ x ∈ l, 0 ≤ x ∧ x < ((2 ^ n : Nat) : Int)
theorem smallP_at {n : Nat} {l : List Int} (h : SmallP n l) (i : Nat) (hi : i < n) : 0 ≤ l.getD i 0 ∧ l.getD i 0 < ((2 ^ n : Nat) : Int) := by
  have hl : i < l.length := by rw [h.1]; exact hi
  rw [getD_at l i 0 hl]
  exact h.2 _ (List.getElem_mem hl)
theorem smallP_1024 {n : Nat} {l : List Int} (h : SmallP n l) (hn : n ≤ 10) (i : Nat) (hi : i < n) : 0 ≤ l.getD i 0 ∧ l.getD i 0 < 1024 := by
  have h1 := smallP_at h i hi
  have h2 : 2 ^ n ≤ 2 ^ 10 := Nat.pow_le_pow_right (by omega) hn
  omega
theorem smallP_start (n : Nat) : SmallP n (startP n) := by
  refine ⟨by simp [startP], fun x hx => ?_⟩
  obtain ⟨i, hi, rfl⟩ := List.mem_map.1 hx
  have : i < n := by simpa using hi
  have h2 : 2 ^ i < 2 ^ n := Nat.pow_lt_pow_right (by omega) this
  have h3 : 0 < 2 ^ i := Nat.two_pow_pos i
  omega
theorem orI_lt {n : Nat} {a b : Int} (ha : 0 ≤ a ∧ a < ((2 ^ n : Nat) : Int)) (hb : 0 ≤ b ∧ b < ((2 ^ n : Nat) : Int)) : 0 ≤ orI a b ∧ orI a b < ((2 ^ n : Nat) : Int) := by
  have h := Nat.or_lt_two_pow (x := a.toNat) (y := b.toNat) (n := n) (by omega) (by omega)
  unfold orI
  omega
theorem smallP_set {n : Nat} {l : List Int} (h : SmallP n l) (i : Nat) (x : Int) (hx : 0 ≤ x ∧ x < ((2 ^ n : Nat) : Int)) : SmallP n (l.set i x) := by
  refine ⟨by rw [List.length_set, h.1], fun y hy => ?_⟩
  rcases List.mem_or_eq_of_mem_set hy with h1 | h1
  · exact h.2 y h1
  · rw [h1]; exact hx
theorem or_i64 {a b : Int} (ha : 0 ≤ a ∧ a < 1024) (hb : 0 ≤ b ∧ b < 1024) : Go.bits .or .i64 a b = orI a b := by
  have h := (bits_nat .i64 10 (by decide) (fun n h0 h1 => by rw [IntKind.wrap_i64]; omega) a.toNat b.toNat (by omega) (by omega)).2
  rw [show ((a.toNat : Nat) : Int) = a by omega, show ((b.toNat : Nat) : Int) = b by omega] at h
  exact h
theorem or_u16 {a b : Int} (ha : 0 ≤ a ∧ a < 1024) (hb : 0 ≤ b ∧ b < 1024) : Go.bits .or .u16 a b = orI a b := by
  have h := (bits_nat .u16 10 (by decide) (fun n h0 h1 => by simp [IntKind.wrap, IntKind.bits, IntKind.signed]; omega) a.toNat b.toNat (by omega) (by omega)).2
  rw [show ((a.toNat : Nat) : Int) = a by omega, show ((b.toNat : Nat) : Int) = b by omega] at h
  exact h
theorem shl_i64_all : ∀ i : Fin 11, shl .i64 1 (i.val : Int) = ((2 ^ i.val : Nat) : Int) := by decide +kernel
theorem shl_u16_all : ∀ i : Fin 11, shl .u16 1 (i.val : Int) = ((2 ^ i.val : Nat) : Int) := by decide +kernel
theorem shl_i64_at (i : Int) (h0 : 0 ≤ i) (h1 : i ≤ 10) : shl .i64 1 i = ((2 ^ i.toNat : Nat) : Int) := by
  have := shl_i64_all ⟨i.toNat, by omega⟩
  simp only [Int.toNat_of_nonneg h0] at this
  exact this
theorem shl_u16_at (i : Int) (h0 : 0 ≤ i) (h1 : i ≤ 10) : shl .u16 1 i = ((2 ^ i.toNat : Nat) : Int) := by
  have := shl_u16_all ⟨i.toNat, by omega⟩
  simp only [Int.toNat_of_nonneg h0] at this
  exact this
theorem startP_take (n i : Nat) (h : i < n) : (startP n).take (i + 1) = (startP n).take i ++ [((2 ^ i : Nat) : Int)] := by
  rw [take_at (startP n) i 0 (by simpa [startP] using h), startP, getD_range_map _ _ _ _ h]
theorem caStart_l0 (n : Nat) (hn : n ≤ 10) : ∀ (d : Nat) (i : Int), 0 ≤ i → i + d = n → Ev (fun k => spec_caStart.l0 k (n : Int) ((startP n).take i.toNat) i) (startP n) := by
  intro d
  have hl : (startP n).length = n := by simp [startP]
  induction d with
  | zero =>
    intro i h0 hi
    refine ev_step (f := fun _ => some ((startP n).take i.toNat)) (fun k => ?_) ?_
    · simp only [spec_caStart.l0]; rw [if_neg (by omega)]
    · rw [List.take_of_length_le (by omega)]; exact ev_now _
  | succ d ih =>
    intro i h0 hi
    refine ev_step (f := fun k => spec_caStart.l0 k (n : Int) ((startP n).take (i + 1).toNat) (i + 1)) (fun k => ?_) (ih _ (by omega) (by omega))
    simp only [spec_caStart.l0]
    rw [if_pos (by omega), if_pos h0, if_pos (by rw [List.length_take]; omega), w64 (by omega) (by omega), shl_i64_at i h0 (by omega), ← startP_take n i.toNat (by omega), show (i + 1).toNat = i.toNat + 1 by omega]
theorem caStart_ev (n : Int) (h1 : 1 ≤ n) (h2 : n ≤ 10) : Ev (fun k => spec_caStart.f k n) (startP n.toNat) := by
  have := caStart_l0 n.toNat (by omega) n.toNat 0 (by omega) (by omega)
  unfold spec_caStart.f
  simpa [show ((n.toNat : Nat) : Int) = n by omega] using this
theorem first_l0 (n : Nat) (hn : n ≤ 10) : ∀ (d : Nat) (i : Int), 0 ≤ i → i + d = n → Ev (fun k => impl_first.l0 k ((startP n).take i.toNat) (n : Int) i) (startP n) := by
  intro d
  have hl : (startP n).length = n := by simp [startP]
  induction d with
  | zero =>
    intro i h0 hi
    refine ev_step (f := fun _ => some ((startP n).take i.toNat)) (fun k => ?_) ?_
    · simp only [impl_first.l0]; rw [if_neg (by omega)]
    · rw [List.take_of_length_le (by omega)]; exact ev_now _
  | succ d ih =>
    intro i h0 hi
    refine ev_step (f := fun k => impl_first.l0 k ((startP n).take (i + 1).toNat) (n : Int) (i + 1)) (fun k => ?_) (ih _ (by omega) (by omega))
    simp only [impl_first.l0]
    rw [if_pos (by omega), if_pos h0, if_pos (by rw [List.length_take]; omega), w64 (by omega) (by omega), shl_u16_at i h0 (by omega), ← startP_take n i.toNat (by omega), show (i + 1).toNat = i.toNat + 1 by omega]
theorem first_ev (n : Int) (h1 : 1 ≤ n) (h2 : n ≤ 10) : Ev (fun k => impl_first.f k n) (startP n.toNat) := by
  have := first_l0 n.toNat (by omega) n.toNat 0 (by omega) (by omega)
  unfold impl_first.f
  simpa [show ((n.toNat : Nat) : Int) = n by omega] using this

/-! news behind calls -/
def meetP (l : List Int) (c : S54) : List Int := (l.set c.f0.toNat (orI (l.getD c.f0.toNat 0) (l.getD c.f1.toNat 0))).set c.f1.toNat (orI (l.getD c.f0.toNat 0) (l.getD c.f1.toNat 0))
def playP (n : Nat) (cs : List S54) : List Int := cs.foldl meetP (startP n)
theorem isCallB_true {n a b : Int} (h : isCallB n a b = true) : 0 ≤ a ∧ a < b ∧ b < n := by simpa [isCallB] using h
theorem smallP_meet {n : Nat} {l : List Int} (h : SmallP n l) (c : S54) (hc : isCallB n c.f0 c.f1 = true) : SmallP n (meetP l c) := by
  obtain ⟨h1, h2, h3⟩ := isCallB_true hc
  have hx := orI_lt (smallP_at h c.f0.toNat (by omega)) (smallP_at h c.f1.toNat (by omega))
  exact smallP_set (smallP_set h _ _ hx) _ _ hx
theorem smallP_foldl {n : Nat} : ∀ (cs : List S54) (l : List Int), SmallP n l → (∀ c ∈ cs, isCallB n c.f0 c.f1 = true) → SmallP n (cs.foldl meetP l)
  | [], _, h, _ => h
  | c :: cs, _, h, hc => smallP_foldl cs _ (smallP_meet h c (hc c (List.mem_cons_self))) (fun d hd => hc d (List.mem_cons_of_mem _ hd))
theorem smallP_play {n : Nat} (cs : List S54) (hc : ∀ c ∈ cs, isCallB n c.f0 c.f1 = true) : SmallP n (playP n cs) := smallP_foldl cs _ (smallP_start n) hc
theorem caMake_f {n : Nat} (hn : n ≤ 10) {l : List Int} (h : SmallP n l) (c : S54) (hc : isCallB n c.f0 c.f1 = true) : spec_caMake.f l c.f0 c.f1 = some (meetP l c) := by
  obtain ⟨h1, h2, h3⟩ := isCallB_true hc
  have hl := h.1
  unfold spec_caMake.f spec_l1Own.f
  simp only [Option.bind_some, List.nil_append, List.length_nil]
  rw [if_pos (by omega)]
  simp only [Option.bind_some]
  rw [if_pos h1, if_pos (by omega), if_pos (by omega), if_pos (by omega), if_pos (by omega), if_pos (by omega)]
  rw [or_i64 (show 0 ≤ rd l c.f0 ∧ rd l c.f0 < 1024 from smallP_1024 h hn c.f0.toNat (by omega)) (show 0 ≤ rd l c.f1 ∧ rd l c.f1 < 1024 from smallP_1024 h hn c.f1.toNat (by omega))]
  rfl
theorem meet_f {n : Nat} (hn : n ≤ 10) {l : List Int} (h : SmallP n l) (c : S54) (hc : isCallB n c.f0 c.f1 = true) : impl_news_meet.f l c.f0 c.f1 = some (meetP l c) := by
  obtain ⟨h1, h2, h3⟩ := isCallB_true hc
  have hl := h.1
  unfold impl_news_meet.f
  rw [if_pos h1, if_pos (by omega), if_pos (by omega), if_pos (by omega)]
  rw [or_u16 (show 0 ≤ rd l c.f0 ∧ rd l c.f0 < 1024 from smallP_1024 h hn c.f0.toNat (by omega)) (show 0 ≤ rd l c.f1 ∧ rd l c.f1 < 1024 from smallP_1024 h hn c.f1.toNat (by omega))]
  rfl
theorem after_l0 {n : Nat} (hn : n ≤ 10) (cs : List S54) (h : cs.length ≤ 1048576) (hc : ∀ c ∈ cs, isCallB n c.f0 c.f1 = true) : ∀ (d : Nat) (i : Int) (l : List Int), 0 ≤ i → i + d = cs.length → SmallP n l →
    Ev (fun k => impl_after.l0 k l cs (cs.length : Int) i) ((cs.drop i.toNat).foldl meetP l) := by
  intro d
  induction d with
  | zero =>
    intro i l h0 hi hs
    refine ev_step (f := fun _ => some l) (fun k => ?_) ?_
    · simp only [impl_after.l0]; rw [if_neg (by omega)]
    · rw [List.drop_eq_nil_of_le (by omega)]; exact ev_now _
  | succ d ih =>
    intro i l h0 hi hs
    have hlt : i.toNat < cs.length := by omega
    have hd := drop_at cs i.toNat z54 hlt
    have hm : isCallB n (cs.getD i.toNat z54).f0 (cs.getD i.toNat z54).f1 = true := hc _ (by rw [getD_at _ _ _ hlt]; exact List.getElem_mem hlt)
    refine ev_step (f := fun k => impl_after.l0 k (meetP l (cs.getD i.toNat z54)) cs (cs.length : Int) (i + 1)) (fun k => ?_) ?_
    · simp only [impl_after.l0, rd_T54, meet_f hn hs _ hm, Option.bind_some]
      rw [if_pos (by omega), if_pos h0, if_pos (by omega), w64 (by omega) (by omega)]
    · rw [hd, List.foldl_cons]
      have := ih (i + 1) _ (by omega) (by omega) (smallP_meet hs _ hm)
      rwa [show (i + 1).toNat = i.toNat + 1 by omega] at this
theorem after_ev {n : Int} (cs : List S54) (h1 : 1 ≤ n) (h2 : n ≤ 10) (h : cs.length ≤ 1048576) (hc : ∀ c ∈ cs, isCallB n c.f0 c.f1 = true) : Ev (fun k => impl_after.f k n cs) (playP n.toNat cs) := by
  unfold impl_after.f
  refine Ev.bind (first_ev n h1 h2) ?_
  have e : ((n.toNat : Nat) : Int) = n := by omega
  have := after_l0 (n := n.toNat) (by omega) cs h (fun c hm => by rw [e]; exact hc c hm) cs.length 0 _ (by omega) (by omega) (smallP_start n.toNat)
  simpa [playP] using this

/-! all know -/
theorem pop_all : ∀ n : Fin 11, ∀ x : Fin 1024, x.val < 2 ^ n.val → (Go.Proofs.Ytgcpbaipdpchfaa.H.pop16 x.val ≤ n.val ∧ (Go.Proofs.Ytgcpbaipdpchfaa.H.pop16 x.val = n.val ↔ x.val = 2 ^ n.val - 1)) := by decide +kernel
def popI (x : Int) : Nat := Go.Proofs.Ytgcpbaipdpchfaa.H.pop16 x.toNat
theorem popI_le {n : Nat} (hn : n ≤ 10) {x : Int} (hx : 0 ≤ x ∧ x < ((2 ^ n : Nat) : Int)) : popI x ≤ n ∧ (popI x = n ↔ x = ((2 ^ n - 1 : Nat) : Int)) := by
  have h2 : 2 ^ n ≤ 2 ^ 10 := Nat.pow_le_pow_right (by omega) hn
  have h := pop_all ⟨n, by omega⟩ ⟨x.toNat, by omega⟩ (by show x.toNat < 2 ^ n; omega)
  have h' : Go.Proofs.Ytgcpbaipdpchfaa.H.pop16 x.toNat ≤ n ∧ (Go.Proofs.Ytgcpbaipdpchfaa.H.pop16 x.toNat = n ↔ x.toNat = 2 ^ n - 1) := h
  refine ⟨h'.1, h'.2.trans ⟨fun e => by omega, fun e => by omega⟩⟩
def sumP (l : List Int) : Nat := (l.map popI).sum
theorem sumP_le (n : Nat) : ∀ (l : List Int), (∀ x ∈ l, popI x ≤ n) → sumP l ≤ n * l.length ∧ (sumP l = n * l.length ↔ ∀ x ∈ l, popI x = n)
  | [], _ => by simp [sumP]
  | x :: l, h => by
    have ih := sumP_le n l (fun y hy => h y (List.mem_cons_of_mem _ hy))
    have hx := h x (List.mem_cons_self)
    have e : sumP (x :: l) = popI x + sumP l := by simp [sumP]
    rw [e, List.length_cons, Nat.mul_succ]
    refine ⟨by omega, ⟨fun hh => ?_, fun hh => ?_⟩⟩
    · intro y hy
      rcases List.mem_cons.1 hy with rfl | hy
      · omega
      · exact (ih.2.1 (by omega)) y hy
    · have h1 := hh x (List.mem_cons_self)
      have h2 := ih.2.2 (fun y hy => hh y (List.mem_cons_of_mem _ hy))
      omega
def allP (n : Nat) (l : List Int) : Bool := l.all fun x => x == ((2 ^ n - 1 : Nat) : Int)
theorem allP_sum {n : Nat} (hn : n ≤ 10) {l : List Int} (h : SmallP n l) : (((sumP l : Nat) : Int) == (n : Int) * (n : Int)) = allP n l := by
  have hp := fun x hx => popI_le hn (h.2 x hx)
  have hs := sumP_le n l (fun x hx => (hp x hx).1)
  rw [h.1] at hs
  rw [Bool.eq_iff_iff, beq_iff_eq, allP, List.all_eq_true]
  constructor
  · intro e x hx
    rw [beq_iff_eq]
    exact (hp x hx).2.1 (hs.2.1 (by exact_mod_cast e) x hx)
  · intro e
    have := hs.2.2 (fun x hx => (hp x hx).2.2 (by simpa using e x hx))
    exact_mod_cast this
theorem onesCount_f {x : Int} (hx : 0 ≤ x ∧ x < 1024) : bits_OnesCount16.f x = some ((popI x : Nat) : Int) := by
  unfold bits_OnesCount16.f
  rw [if_pos hx.1, if_pos (by omega)]
  rfl
theorem popI_le16 (x : Int) : popI x ≤ 16 := by
  have := List.countP_le_length (p := fun i => x.toNat.testBit i) (l := List.range 16)
  simpa [popI, Go.Proofs.Ytgcpbaipdpchfaa.H.pop16] using this
theorem sumP_le16 (l : List Int) : sumP l ≤ 16 * l.length := (sumP_le 16 l (fun x _ => popI_le16 x)).1
theorem count_l0 {n : Nat} (hn : n ≤ 10) {l : List Int} (h : SmallP n l) : ∀ (d : Nat) (i : Int) (a : Nat), 0 ≤ i → i + d = l.length → a ≤ 16 * i.toNat → Ev (fun k => impl_news_count.l0 k (a : Int) l (l.length : Int) i) ((a + sumP (l.drop i.toNat) : Nat) : Int) := by
  intro d
  have hl := h.1
  induction d with
  | zero =>
    intro i a h0 hi ha
    refine ev_step (f := fun _ => some (a : Int)) (fun k => ?_) ?_
    · simp only [impl_news_count.l0]; rw [if_neg (by omega)]
    · rw [List.drop_eq_nil_of_le (by omega)]; exact ev_now _
  | succ d ih =>
    intro i a h0 hi ha
    have hd := drop_at l i.toNat 0 (by omega)
    have hp := popI_le16 (l.getD i.toNat 0)
    refine ev_step (f := fun k => impl_news_count.l0 k ((a + popI (l.getD i.toNat 0) : Nat) : Int) l (l.length : Int) (i + 1)) (fun k => ?_) ?_
    · simp only [impl_news_count.l0]
      rw [if_pos (by omega), if_pos h0, if_pos (by omega), onesCount_f (show 0 ≤ rd l i ∧ rd l i < 1024 from smallP_1024 h hn i.toNat (by omega))]
      simp only [Option.bind_some]
      rw [w64 (x := i + 1) (by omega) (by omega), show rd l i = l.getD i.toNat 0 from rfl, w64 (by omega) (by omega)]
      rfl
    · have := ih (i + 1) (a + popI (l.getD i.toNat 0)) (by omega) (by omega) (by omega)
      rw [show (i + 1).toNat = i.toNat + 1 by omega] at this
      rw [hd]
      have e : sumP (l.getD i.toNat 0 :: l.drop (i.toNat + 1)) = popI (l.getD i.toNat 0) + sumP (l.drop (i.toNat + 1)) := by simp [sumP]
      rw [e, ← Nat.add_assoc]
      exact this
theorem count_ev {n : Nat} (hn : n ≤ 10) {l : List Int} (h : SmallP n l) : Ev (fun k => impl_news_count.f k l) ((sumP l : Nat) : Int) := by
  have hl := h.1
  have := count_l0 hn h l.length 0 0 (by omega) (by omega) (by omega)
  unfold impl_news_count.f
  simpa using this

theorem allKnow_ev {n : Nat} (hn : n ≤ 10) {l : List Int} (h : SmallP n l) : Ev (fun k => impl_news_allKnow.f k l) (allP n l) := by
  have hl := h.1
  unfold impl_news_allKnow.f
  refine Ev.bind (count_ev hn h) ?_
  have e : (l.length : Int) * (l.length : Int) = (n : Int) * (n : Int) := by rw [hl]
  have hb : (n : Int) * (n : Int) ≤ 10 * 10 := Int.mul_le_mul (by omega) (by omega) (by omega) (by omega)
  have hb0 : 0 ≤ (n : Int) * (n : Int) := Int.mul_nonneg (by omega) (by omega)
  rw [e, w64 (by omega) (by omega), allP_sum hn h]
  exact ev_now _
theorem caAll_l0 {n : Nat} (hn : n ≤ 10) {l : List Int} (h : SmallP n l) : ∀ (d : Nat) (i : Int), 0 ≤ i → i + d = l.length → Ev (fun k => spec_caAll.l0 k l l (l.length : Int) i) (allP n (l.drop i.toNat)) := by
  intro d
  have hl := h.1
  have hw : wrap64 ((shl .i64 1 (l.length : Int)) - 1) = ((2 ^ n - 1 : Nat) : Int) := by
    have h2 : 2 ^ n ≤ 2 ^ 10 := Nat.pow_le_pow_right (by omega) hn
    have h3 : 0 < 2 ^ n := Nat.two_pow_pos n
    rw [shl_i64_at _ (by omega) (by omega), hl, show ((n : Int)).toNat = n by omega, w64 (by omega) (by omega)]
    omega
  induction d with
  | zero =>
    intro i h0 hi
    refine ev_step (f := fun _ => some true) (fun k => ?_) ?_
    · simp only [spec_caAll.l0]; rw [if_neg (by omega)]
    · rw [List.drop_eq_nil_of_le (by omega)]; exact ev_now _
  | succ d ih =>
    intro i h0 hi
    have hd := drop_at l i.toNat 0 (by omega)
    have ea : allP n (l.drop i.toNat) = ((l.getD i.toNat 0 == ((2 ^ n - 1 : Nat) : Int)) && allP n (l.drop (i.toNat + 1))) := by rw [hd]; rfl
    rw [ea]
    by_cases hq : l.getD i.toNat 0 = ((2 ^ n - 1 : Nat) : Int)
    · refine ev_step (f := fun k => spec_caAll.l0 k l l (l.length : Int) (i + 1)) (fun k => ?_) ?_
      · simp only [spec_caAll.l0, hw, show rd l i = l.getD i.toNat 0 from rfl]
        rw [if_pos (by omega), if_pos h0, if_pos (by omega), if_pos hq, w64 (by omega) (by omega)]
      · have := ih (i + 1) (by omega) (by omega)
        rw [show (i + 1).toNat = i.toNat + 1 by omega] at this
        rw [beq_iff_eq.2 hq, Bool.true_and]
        exact this
    · refine ev_step (f := fun _ => some false) (fun k => ?_) ?_
      · simp only [spec_caAll.l0, hw, show rd l i = l.getD i.toNat 0 from rfl]
        rw [if_pos (by omega), if_pos h0, if_pos (by omega), if_neg hq]
      · rw [beq_eq_false_iff_ne.2 hq, Bool.false_and]; exact ev_now _
theorem caAll_ev {n : Nat} (hn : n ≤ 10) {l : List Int} (h : SmallP n l) : Ev (fun k => spec_caAll.f k l) (allP n l) := by
  have hl := h.1
  have := caAll_l0 hn h l.length 0 (by omega) (by omega)
  unfold spec_caAll.f
  simpa using this

/-! single digits -/
theorem bit_i64_all : ∀ x : Fin 1024, ∀ a : Fin 10, Go.bits .and .i64 (shr .i64 (x.val : Int) (a.val : Int)) 1 = if x.val.testBit a.val then 1 else 0 := by decide +kernel
theorem bit_u16_all : ∀ x : Fin 1024, ∀ a : Fin 10, Go.bits .and .u16 (shr .u16 (x.val : Int) (a.val : Int)) 1 = if x.val.testBit a.val then 1 else 0 := by decide +kernel
def bitB (x a : Int) : Bool := x.toNat.testBit a.toNat
theorem bit_i64 {x a : Int} (hx : 0 ≤ x ∧ x < 1024) (h0 : 0 ≤ a) (h1 : a < 10) : (Go.bits .and .i64 (shr .i64 x a) 1 = 1) = (bitB x a = true) := by
  have h := bit_i64_all ⟨x.toNat, by omega⟩ ⟨a.toNat, by omega⟩
  simp only [Int.toNat_of_nonneg hx.1, Int.toNat_of_nonneg h0] at h
  rw [h, bitB]
  cases x.toNat.testBit a.toNat <;> simp
theorem bit_u16 {x a : Int} (hx : 0 ≤ x ∧ x < 1024) (h0 : 0 ≤ a) (h1 : a < 10) : (Go.bits .and .u16 (shr .u16 x a) 1 = 1) = (bitB x a = true) := by
  have h := bit_u16_all ⟨x.toNat, by omega⟩ ⟨a.toNat, by omega⟩
  simp only [Int.toNat_of_nonneg hx.1, Int.toNat_of_nonneg h0] at h
  rw [h, bitB]
  cases x.toNat.testBit a.toNat <;> simp

/-! networks: strictly increasing lists of calls -/
theorem isCallB_bd {n a b : Int} (h : isCallB n a b = true) : 0 ≤ a ∧ a < b ∧ b < n := by simpa [isCallB] using h
def lessB (c d : S54) : Bool := decide (c.f0 < d.f0) || (decide (c.f0 = d.f0) && decide (c.f1 < d.f1))
def pairsB (n : Int) : Option S54 → List S54 → Bool
  | _, [] => true
  | none, c :: cs => isCallB n c.f0 c.f1 && pairsB n (some c) cs
  | some p, c :: cs => isCallB n c.f0 c.f1 && (lessB p c && pairsB n (some c) cs)
def friendsB (n : Int) : Bool := decide (1 ≤ n) && decide (n ≤ 10)
def arePairsB (n : Int) (l : List S54) : Bool := friendsB n && pairsB n none l
def codeP (c : S54) : Nat := 10 * c.f0.toNat + c.f1.toNat
def validN (n : Nat) (x : Nat) : Bool := decide (x / 10 < x % 10) && decide (x % 10 < n)
theorem valid_count : ∀ n : Fin 11, (List.range 100).countP (validN n.val) = n.val * (n.val - 1) / 2 := by decide +kernel
theorem valid_code {n : Int} (hn : n ≤ 10) {c : S54} (h : isCallB n c.f0 c.f1 = true) : validN n.toNat (codeP c) = true ∧ codeP c < 100 := by
  obtain ⟨h1, h2, h3⟩ := isCallB_bd h
  have e1 : codeP c / 10 = c.f0.toNat := by unfold codeP; omega
  have e2 : codeP c % 10 = c.f1.toNat := by unfold codeP; omega
  refine ⟨?_, by unfold codeP; omega⟩
  simp only [validN, e1, e2, Bool.and_eq_true, decide_eq_true_eq]
  omega
theorem less_code {n : Int} (hn : n ≤ 10) {c d : S54} (hc : isCallB n c.f0 c.f1 = true) (hd : isCallB n d.f0 d.f1 = true) (h : lessB c d = true) : codeP c < codeP d := by
  obtain ⟨h1, h2, h3⟩ := isCallB_bd hc
  obtain ⟨g1, g2, g3⟩ := isCallB_bd hd
  simp [lessB] at h
  unfold codeP
  omega
theorem range_count (p : Nat → Bool) : ∀ (m s x : Nat), s ≤ x → x < s + m → p x = true → 1 + (List.range' (x + 1) (s + m - (x + 1))).countP p ≤ (List.range' s m).countP p
  | 0, s, x, h1, h2, _ => by omega
  | m + 1, s, x, h1, h2, hp => by
    rw [List.range'_succ, List.countP_cons]
    rcases Nat.lt_or_ge s x with h | h
    · have ih := range_count p m (s + 1) x h (by omega) hp
      rw [show s + (m + 1) - (x + 1) = s + 1 + m - (x + 1) by omega]
      omega
    · have e : x = s := by omega
      subst e
      rw [if_pos hp, show x + (m + 1) - (x + 1) = m by omega]
      omega
theorem pairs_le {n : Int} (hn : n ≤ 10) : ∀ (l : List S54) (p : S54) (_ : isCallB n p.f0 p.f1 = true), pairsB n (some p) l = true → l.length ≤ (List.range' (codeP p + 1) (100 - (codeP p + 1))).countP (validN n.toNat)
  | [], p, _, _ => Nat.zero_le _
  | c :: cs, p, hp, h => by
    simp only [pairsB, Bool.and_eq_true] at h
    obtain ⟨h1, h2, h3⟩ := h
    have ih := pairs_le hn cs c h1 h3
    have v := valid_code hn h1
    have vp := valid_code hn hp
    have lt := less_code hn hp h1 h2
    have := range_count (validN n.toNat) (100 - (codeP p + 1)) (codeP p + 1) (codeP c) lt (by omega) v.1
    rw [show codeP p + 1 + (100 - (codeP p + 1)) - (codeP c + 1) = 100 - (codeP c + 1) by omega] at this
    rw [List.length_cons]
    omega
theorem pairs_length {n : Int} {l : List S54} (h : arePairsB n l = true) : l.length ≤ n.toNat * (n.toNat - 1) / 2 := by
  simp only [arePairsB, friendsB, Bool.and_eq_true, decide_eq_true_eq] at h
  obtain ⟨⟨h1, h2⟩, h3⟩ := h
  have hv := valid_count ⟨n.toNat, by omega⟩
  simp only at hv
  rw [← hv, List.range_eq_range']
  cases l with
  | nil => exact Nat.zero_le _
  | cons c cs =>
    simp only [pairsB, Bool.and_eq_true] at h3
    have v := valid_code h2 h3.1
    have := range_count (validN n.toNat) 100 0 (codeP c) (Nat.zero_le _) (by omega) v.1
    have g := pairs_le h2 cs c h3.1 h3.2
    rw [show 0 + 100 - (codeP c + 1) = 100 - (codeP c + 1) by omega] at this
    rw [List.length_cons]
    omega
theorem pairs_45 {n : Int} {l : List S54} (h : arePairsB n l = true) : 1 ≤ n ∧ n ≤ 10 ∧ l.length ≤ 45 := by
  have hl := pairs_length h
  simp only [arePairsB, friendsB, Bool.and_eq_true, decide_eq_true_eq] at h
  obtain ⟨⟨h1, h2⟩, h3⟩ := h
  have : n.toNat * (n.toNat - 1) ≤ 10 * 9 := Nat.mul_le_mul (by omega) (by omega)
  exact ⟨h1, h2, by omega⟩
theorem pairs_all {n : Int} : ∀ (l : List S54) (o : Option S54), pairsB n o l = true → ∀ c ∈ l, isCallB n c.f0 c.f1 = true
  | [], _, _ => by simp
  | c :: cs, o, h => by
    have h' : isCallB n c.f0 c.f1 = true ∧ pairsB n (some c) cs = true := by
      cases o with
      | none => simpa [pairsB] using h
      | some p => simp only [pairsB, Bool.and_eq_true] at h; exact ⟨h.1, h.2.2⟩
    intro d hd
    rcases List.mem_cons.1 hd with rfl | hd
    · exact h'.1
    · exact pairs_all cs _ h'.2 d hd
theorem arePairs_all {n : Int} {l : List S54} (h : arePairsB n l = true) : ∀ c ∈ l, isCallB n c.f0 c.f1 = true := by
  simp only [arePairsB, Bool.and_eq_true] at h
  exact pairs_all l none h.2
def prevP (l : List S54) (i : Nat) : Option S54 := if i = 0 then none else some (l.getD (i - 1) z54)
theorem pairs_step (n : Int) (l : List S54) (i : Nat) (h : i < l.length) : pairsB n (prevP l i) (l.drop i) = (isCallB n (l.getD i z54).f0 (l.getD i z54).f1 && ((i = 0 || lessB (l.getD (i - 1) z54) (l.getD i z54)) && pairsB n (prevP l (i + 1)) (l.drop (i + 1)))) := by
  rw [drop_at l i z54 h]
  have e : prevP l (i + 1) = some (l.getD i z54) := by simp [prevP]
  rw [e]
  unfold prevP
  by_cases hi : i = 0
  · rw [if_pos hi]; simp [pairsB, hi]
  · rw [if_neg hi]; simp [pairsB, hi]
theorem areFriendsN_f (n : Int) : impl_areFriends.f n = some (friendsB n) := by
  unfold impl_areFriends.f impl_within.f friendsB
  by_cases h1 : 1 ≤ n <;> by_cases h2 : n ≤ 10 <;> simp [h1, h2]
theorem most_pairs : ∀ n : Fin 11, wrap64 (Int.tdiv (wrap64 ((n.val : Int) * (wrap64 ((n.val : Int) - 1)))) 2) = ((n.val * (n.val - 1) / 2 : Nat) : Int) := by decide +kernel
theorem compare_f (a b : Int) : cmp_Compare_int.f a b = some (if a < b then -1 else if a > b then 1 else 0) := by
  unfold cmp_Compare_int.f cmp_isNaN_int.f
  simp only [Option.bind_some, bne_self_eq_false, Bool.false_eq_true, if_false]
  split
  · rfl
  · split <;> rfl
def cmpP (c d : S54) : Int := if c.f0 < d.f0 then -1 else if c.f0 > d.f0 then 1 else if c.f1 < d.f1 then -1 else if c.f1 > d.f1 then 1 else 0
theorem or2_f (x y : Int) (k : Nat) : cmp_Or_int.f (k + 3) [x, y] = some (if x = 0 then y else x) := by
  unfold cmp_Or_int.f
  by_cases hx : x = 0
  · by_cases hy : y = 0
    · simp [cmp_Or_int.l0, rd, hx, hy, wrap64]
    · simp [cmp_Or_int.l0, rd, hx, hy, wrap64]
  · simp [cmp_Or_int.l0, rd, hx, wrap64]
theorem compareCalls_ev (c d : S54) : Ev (fun k => impl_compareCalls.f k c.f0 c.f1 d.f0 d.f1) (cmpP c d) := by
  refine ⟨3, fun k hk => ?_⟩
  obtain ⟨j, rfl⟩ : ∃ j, k = j + 3 := ⟨k - 3, by omega⟩
  unfold impl_compareCalls.f
  simp only [compare_f, Option.bind_some, or2_f]
  congr 1
  unfold cmpP
  by_cases h1 : c.f0 < d.f0
  · simp [h1]
  · by_cases h2 : c.f0 > d.f0
    · simp [h1, h2]
    · simp [h1, h2]
theorem cmpP_less (c d : S54) : (cmpP c d ≥ 0) = (lessB c d = false) := by
  unfold cmpP lessB
  by_cases h1 : c.f0 < d.f0
  · simp [h1]
  · by_cases h2 : c.f0 > d.f0
    · have h3 : ¬ c.f0 = d.f0 := by omega
      simp [h1, h2, h3]
    · have h3 : c.f0 = d.f0 := by omega
      by_cases h4 : c.f1 < d.f1
      · simp [h3, h4]
      · by_cases h5 : c.f1 > d.f1 <;> simp [h3, h4, h5]
theorem ev_allN {g : Nat → Nat → Option Bool} {p : Nat → Bool} : ∀ (m : Nat), (∀ i, i < m → Ev (fun k => g k i) (p i)) → ∃ K, ∀ k, K ≤ k → ∀ i, i < m → g k i = some (p i)
  | 0, _ => ⟨0, fun _ _ _ h => absurd h (Nat.not_lt_zero _)⟩
  | m + 1, h => by
    obtain ⟨K, hK⟩ := ev_allN m (fun i hi => h i (by omega))
    obtain ⟨K', hK'⟩ := h m (by omega)
    refine ⟨max K K', fun k hk i hi => ?_⟩
    by_cases e : i = m
    · subst e; exact hK' k (by omega)
    · exact hK k (by omega) i (by omega)
theorem ev_neededO {g : Nat → Nat → Option Bool} {p : Nat → Bool} {m : Nat} (hm : m ≤ 1048576) (h : ∀ i, i < m + 1 → Ev (fun k => g k i) (p i)) : Ev (fun k => Go.Proofs.Ytgcpbaipdpchfaa.H.neededO (g k) m) (Go.Proofs.Ytgcpbaipdpchfaa.H.neededP p (m + 1) 0) := by
  obtain ⟨K, hK⟩ := ev_allN (m + 1) h
  exact ⟨K, fun k hk => Go.Proofs.Ytgcpbaipdpchfaa.H.neededO_some hm (hK k hk)⟩

theorem smallP_of {n : Int} {cs : List S54} (h1 : 1 ≤ n) (h4 : ∀ c ∈ cs, isCallB n c.f0 c.f1 = true) : SmallP n.toNat (playP n.toNat cs) := smallP_play cs (fun c hc => by rw [show ((n.toNat : Nat) : Int) = n by omega]; exact h4 c hc)

/-! rows of rows: compared, marked -/
def totC : List (List S54) → Int
  | [] => 0
  | r :: rs => 2 * (r.length : Int) + totC rs
def markedRC : List (List S54) → Int → List (List S54)
  | [], _ => []
  | r :: rs, m => markedC r.length m :: markedRC rs (m + 2 * (r.length : Int))
def RowsC (l : List (List S54)) : Prop := l.length ≤ 1048576 ∧ ∀ r ∈ l, r.length ≤ 1048576
theorem totC_nonneg : ∀ (l : List (List S54)), 0 ≤ totC l
  | [] => Int.le_refl _
  | r :: rs => by have := totC_nonneg rs; simp only [totC]; omega
theorem totC_le (b : Nat) : ∀ (l : List (List S54)), (∀ r ∈ l, r.length ≤ b) → totC l ≤ 2 * (b : Int) * l.length
  | [], _ => by simp [totC]
  | r :: rs, h => by
    have h1 := totC_le b rs (fun x hx => h x (List.mem_cons_of_mem _ hx))
    have h2 := h r (List.mem_cons_self)
    have e : 2 * (b : Int) * ((r :: rs).length : Nat) = 2 * (b : Int) * (rs.length : Nat) + 2 * (b : Int) := by
      rw [List.length_cons, Int.natCast_succ, Int.mul_add, Int.mul_one]
    rw [e]
    simp only [totC]
    omega
theorem eqCallSS_l0 : ∀ (rest done : List (List S54)), done.length + rest.length ≤ 1048576 → (∀ r ∈ rest, r.length ≤ 1048576) →
    Ev (fun k => laws_eqCallSS.l0 k (done ++ rest) (done ++ rest) (done.length : Int)) true
  | [], done, h, _ => by
    refine ev_step (f := fun _ => some true) (fun k => ?_) (ev_now _)
    simp only [laws_eqCallSS.l0]
    rw [if_neg (by simp)]
  | r :: rest, done, h, hr => by
    simp only [List.length_cons] at h
    have e : rd_L2 (done ++ r :: rest) (done.length : Int) = r := by
      show (done ++ r :: rest).getD ((done.length : Int)).toNat [] = r
      rw [Int.toNat_natCast, getD_len]
    refine ev_step (f := fun k => (laws_eqCallS.f k r r).bind fun t => if t = true then laws_eqCallSS.l0 k (done ++ r :: rest) (done ++ r :: rest) ((done.length : Int) + 1) else some false) (fun k => ?_) ?_
    · simp only [laws_eqCallSS.l0, e]
      rw [if_pos (by rw [List.length_append, List.length_cons]; omega), if_pos (by omega), if_pos (by rw [List.length_append, List.length_cons]; omega), w64 (by omega) (by omega)]
    · refine Ev.bind (eqCallS_ev r (hr r (List.mem_cons_self))) ?_
      simp only [if_true]
      have := eqCallSS_l0 rest (done ++ [r]) (by rw [List.length_append, List.length_singleton]; omega) (fun x hx => hr x (List.mem_cons_of_mem _ hx))
      rw [List.append_assoc, List.singleton_append, List.length_append, List.length_singleton] at this
      simpa using this
theorem eqCallSS_ev (a : List (List S54)) (h : RowsC a) : Ev (fun k => laws_eqCallSS.f k a a) true := by
  unfold laws_eqCallSS.f
  simp only [if_true]
  have := eqCallSS_l0 a [] (by simpa using h.1) h.2
  simpa using this
theorem rowsC_tot {l : List (List S54)} (h1 : l.length ≤ 1000) (h2 : ∀ r ∈ l, r.length ≤ 1048576) : RowsC l ∧ 1 + totC l ≤ 1099511627776 := by
  refine ⟨⟨by omega, h2⟩, ?_⟩
  have := totC_le 1048576 l h2
  omega

/-! rows of calls as an argument: measured, read -/
def toRows (l : List (List S63)) : List (List S54) := l.map toCalls
theorem toRows_length (l : List (List S63)) : (toRows l).length = l.length := by simp [toRows]
def sumL : List (List S63) → Int
  | [] => 0
  | r :: rs => (r.length : Int) + sumL rs
theorem sumL_nonneg : ∀ l : List (List S63), 0 ≤ sumL l
  | [] => Int.le_refl _
  | r :: rs => by have := sumL_nonneg rs; simp only [sumL]; omega
def szF : List (List S63) → Int → Int
  | [], m => m
  | r :: rs, m => if m - (r.length : Int) < 0 then -1 else szF rs (m - (r.length : Int))
def szR (l : List (List S63)) : Int := if 1048576 - (l.length : Int) < 0 then -1 else szF l (1048576 - (l.length : Int))
theorem szF_sum : ∀ (l : List (List S63)) (m : Int), ¬ szF l m < 0 → sumL l ≤ m ∧ ∀ r ∈ l, (r.length : Int) ≤ m
  | [], m, h => ⟨by simp only [szF] at h; simp only [sumL]; omega, fun _ hr => by cases hr⟩
  | r :: rs, m, h => by
    rw [szF] at h
    by_cases hq : m - (r.length : Int) < 0
    · rw [if_pos hq] at h; omega
    · rw [if_neg hq] at h
      obtain ⟨h1, h2⟩ := szF_sum rs _ h
      have := sumL_nonneg rs
      refine ⟨by simp only [sumL]; omega, fun x hx => ?_⟩
      rcases List.mem_cons.1 hx with rfl | hx
      · omega
      · have := h2 x hx; omega
theorem szR_rows {l : List (List S63)} (h : ¬ szR l < 0) : (l.length ≤ 1048576 ∧ ∀ r ∈ l, r.length ≤ 1048576) ∧ sumL l ≤ 1048576 := by
  unfold szR at h
  by_cases hq : 1048576 - (l.length : Int) < 0
  · rw [if_pos hq] at h; omega
  · rw [if_neg hq] at h
    obtain ⟨h1, h2⟩ := szF_sum l _ h
    exact ⟨⟨by omega, fun r hr => by have := h2 r hr; omega⟩, by omega⟩
theorem szCallSS_l0 : ∀ (rest done : List (List S63)) (m : Int), 0 ≤ m → m ≤ 1048576 → done.length + rest.length ≤ 1048576 → (∀ r ∈ rest, r.length ≤ 9223372036854775807) →
    Ev (fun k => laws_szCallSS.l0 k (done ++ rest) m (done.length : Int)) (szF rest m)
  | [], done, m, _, _, _, _ => by
    refine Ev.step (fun k => ?_) (ev_now _)
    simp only [laws_szCallSS.l0]
    rw [if_neg (by simp)]; rfl
  | r :: rest, done, m, h0, h1, h2, h3 => by
    simp only [List.length_cons] at h2
    have e : rd_L4 (done ++ r :: rest) (done.length : Int) = r := by
      show (done ++ r :: rest).getD ((done.length : Int)).toNat [] = r
      rw [Int.toNat_natCast, getD_len]
    have q1 : (done.length : Int) < ((done ++ r :: rest).length : Int) := by rw [List.length_append, List.length_cons]; omega
    have q2 : (0 : Int) ≤ (done.length : Int) := by omega
    have hr := h3 r (List.mem_cons_self)
    have e1 := w64 (show -9223372036854775808 ≤ m - (r.length : Int) by omega) (by omega)
    have e2 : wrap64 ((done.length : Int) + 1) = ((done ++ [r]).length : Int) := by rw [w64 (by omega) (by omega), List.length_append, List.length_singleton]; rfl
    by_cases hq : m - (r.length : Int) < 0
    · rw [szF, if_pos hq]
      have hm1 : (-1 : Int) < 0 := by decide
      exact Ev.step (fun k => by simp only [laws_szCallSS.l0, if_pos q1, if_pos q2, e, laws_szCallS.f, e1, if_pos hq, Option.bind_some, if_pos hm1] <;> exact rfl) (ev_now _)
    · rw [szF, if_neg hq]
      have ih := szCallSS_l0 rest (done ++ [r]) (m - (r.length : Int)) (by omega) (by omega) (by rw [List.length_append, List.length_singleton]; omega) (fun x hx => h3 x (List.mem_cons_of_mem _ hx))
      rw [List.append_assoc, List.singleton_append] at ih
      exact Ev.step (fun k => by simp only [laws_szCallSS.l0, if_pos q1, if_pos q2, e, laws_szCallS.f, e1, if_neg hq, Option.bind_some, e2] <;> exact rfl) ih
theorem szCallSS_ev (l : List (List S63)) (h : l.length ≤ 9223372036854775807) (h2 : ∀ r ∈ l, r.length ≤ 9223372036854775807) : Ev (fun k => laws_szCallSS.f k l 1048576) (szR l) := by
  unfold laws_szCallSS.f szR
  rw [w64 (by omega) (by omega)]
  by_cases hq : 1048576 - (l.length : Int) < 0
  · simp only [if_pos hq]; exact ev_now _
  · simp only [if_neg hq]
    have := szCallSS_l0 l [] (1048576 - (l.length : Int)) (by omega) (by omega) (by simp; omega) h2
    simpa using this
theorem toCallSS_l0 (l : List (List S63)) (h : l.length ≤ 1048576) (hr : ∀ r ∈ l, r.length ≤ 1048576) : ∀ (d i : Nat), i + d = l.length →
    Ev (fun k => laws_toCallSS.l0 k l ((toRows l).take i ++ List.replicate d []) (i : Int)) (toRows l) := by
  intro d
  have hl := toRows_length l
  induction d with
  | zero =>
    intro i hi
    have hi' : ¬ (i : Int) < (l.length : Int) := by omega
    refine Ev.step (fun k => by simp only [laws_toCallSS.l0, if_neg hi'] <;> exact rfl) ?_
    rw [List.take_of_length_le (by omega), List.replicate_zero, List.append_nil]
    exact ev_now _
  | succ d ih =>
    intro i hi
    have q1 : (i : Int) < (l.length : Int) := by omega
    have q2 : (0 : Int) ≤ (i : Int) := by omega
    have ht : ((toRows l).take i).length = i := by rw [List.length_take]; omega
    have q3 : (i : Int) < (((toRows l).take i ++ List.replicate (d + 1) ([] : List S54)).length : Int) := by rw [List.length_append, ht, List.length_replicate]; omega
    have hm : l.getD i [] ∈ l := by rw [getD_at _ _ _ (show i < l.length by omega)]; exact List.getElem_mem _
    have e2 := w64 (show -9223372036854775808 ≤ (i : Int) + 1 by omega) (by omega)
    refine Ev.step (fun k => by simp only [laws_toCallSS.l0, if_pos q1, if_pos q2, if_pos q3, e2] <;> exact rfl) (Ev.bind (toCallS_ev (rd_L4 l (i : Int)) (hr _ hm)) ?_)
    have e : ((toRows l).take i ++ List.replicate (d + 1) ([] : List S54)).set ((i : Int)).toNat (toCalls (rd_L4 l (i : Int))) = (toRows l).take (i + 1) ++ List.replicate d [] := by
      rw [Int.toNat_natCast, List.replicate_succ, take_at (toRows l) i [] (by omega)]
      have := set_len ((toRows l).take i) (List.replicate d ([] : List S54)) [] (toCalls (rd_L4 l (i : Int)))
      rw [ht] at this
      rw [this, List.append_assoc, List.singleton_append, toRows, getD_map toCalls l i [] [] (by omega)]
      rfl
    rw [e]
    exact ih (i + 1) (by omega)
theorem toCallSS_ev (l : List (List S63)) (h : l.length ≤ 1048576 ∧ ∀ r ∈ l, r.length ≤ 1048576) : Ev (fun k => laws_toCallSS.f k l) (toRows l) := by
  unfold laws_toCallSS.f
  have h1 : (0 : Int) ≤ (l.length : Int) := by omega
  have h2 : l.length ≤ 11728124029610 := by have := h.1; omega
  simp only [if_pos h1, Int.toNat_natCast, if_pos h2]
  have := toCallSS_l0 l h.1 h.2 l.length 0 (by omega)
  simpa using this

theorem toRows_rows {l : List (List S63)} (h : l.length ≤ 1048576 ∧ ∀ r ∈ l, r.length ≤ 1048576) : RowsC (toRows l) := by
  refine ⟨by rw [toRows_length]; exact h.1, fun r hr => ?_⟩
  obtain ⟨x, hx, rfl⟩ := List.mem_map.1 hr
  rw [toCalls_length]; exact h.2 x hx
theorem totC_rows : ∀ l : List (List S63), totC (toRows l) = 2 * sumL l
  | [] => rfl
  | r :: rs => by
    have := totC_rows rs
    show 2 * ((toCalls r).length : Int) + totC (toRows rs) = 2 * ((r.length : Int) + sumL rs)
    rw [toCalls_length, this]; omega
theorem toRows_tot {l : List (List S63)} (h : sumL l ≤ 1048576) : 1 + totC (toRows l) ≤ 1099511627776 := by rw [totC_rows]; omega

/-! rounds: whether rows of calls are rounds -/
theorem pow_small : ∀ a : Fin 10, 2 ^ a.val < 1024 := by decide
theorem ownS (a : Int) (h0 : 0 ≤ a) (h1 : a < 10) : 0 ≤ ((2 ^ a.toNat : Nat) : Int) ∧ ((2 ^ a.toNat : Nat) : Int) < 1024 := by
  have := pow_small ⟨a.toNat, by omega⟩
  exact ⟨Int.natCast_nonneg _, Int.ofNat_lt.mpr this⟩
theorem orS {a b : Int} (ha : 0 ≤ a ∧ a < 1024) (hb : 0 ≤ b ∧ b < 1024) : 0 ≤ orI a b ∧ orI a b < 1024 := by
  have h := orI_lt (n := 10) (a := a) (b := b) (by simpa using ha) (by simpa using hb)
  simpa using h
def pairOf (c : S54) : Int := orI ((2 ^ c.f0.toNat : Nat) : Int) ((2 ^ c.f1.toNat : Nat) : Int)
def roundAt (n : Int) (l : List S54) : Nat → Nat → Int → Bool
  | 0, _, _ => true
  | d + 1, i, s => isCallB n (l.getD i z54).f0 (l.getD i z54).f1 && (!bitB s (l.getD i z54).f0 && (!bitB s (l.getD i z54).f1 && ((decide (i = 0) || lessB (l.getD (i - 1) z54) (l.getD i z54)) && roundAt n l d (i + 1) (orI s (pairOf (l.getD i z54))))))
def isRoundB (n : Int) (l : List S54) : Bool := roundAt n l l.length 0 0
def areRoundsB (n : Int) (l : List (List S54)) : Bool := decide (1 ≤ n) && (decide (n ≤ 10) && (decide (l.length ≤ 20) && l.all (isRoundB n)))
theorem roLess_f (c d : S54) : spec_roLess.f c.f0 c.f1 d.f0 d.f1 = some (lessB c d) := by
  unfold spec_roLess.f lessB
  by_cases h1 : c.f0 < d.f0
  · simp [h1]
  · by_cases h2 : c.f0 = d.f0 <;> simp [h1, h2]
theorem roGood_l1 (n : Int) (h1 : 1 ≤ n) (h2 : n ≤ 10) (r : List S54) (h : r.length ≤ 1048576) (all : List (List S54)) (j : Nat) (hj : j ≤ 1048576) (R : Bool) : ∀ (d i : Nat) (s : Int), i + d = r.length → 0 ≤ s ∧ s < 1024 →
    (roundAt n r d i s = false → R = false) → (roundAt n r d i s = true → Ev (fun k => spec_roGood.l0 k n all (all.length : Int) ((j + 1 : Nat) : Int)) R) →
    Ev (fun k => spec_roGood.l1 k n r s all (all.length : Int) (j : Int) r (r.length : Int) (i : Int)) R := by
  intro d
  induction d with
  | zero =>
    intro i s hi hs g1 g2
    have hi' : ¬ (i : Int) < (r.length : Int) := by omega
    exact Ev.step (fun k => by simp only [spec_roGood.l1, if_neg hi', w64 (show -9223372036854775808 ≤ (j : Int) + 1 by omega) (by omega)] <;> exact rfl) (g2 rfl)
  | succ d ih =>
    intro i s hi hs g1 g2
    have q1 : (i : Int) < (r.length : Int) := by omega
    have q2 : (0 : Int) ≤ (i : Int) := by omega
    have e : rd_T54 r (i : Int) = r.getD i z54 := rfl
    rw [roundAt] at g1 g2
    cases hq : isCallB n (r.getD i z54).f0 (r.getD i z54).f1 with
    | false =>
      rw [hq, Bool.false_and] at g1
      rw [g1 rfl]
      exact Ev.step (fun k => by simp only [spec_roGood.l1, if_pos q1, if_pos q2, e, caCall_f n _ _ h1 h2, Option.bind_some, hq, Bool.false_eq_true, if_false] <;> exact rfl) (ev_now _)
    | true =>
      obtain ⟨a1, a2, a3⟩ := isCallB_bd hq
      have b1 := bit_i64 (a := (r.getD i z54).f0) hs a1 (by omega)
      have b2 := bit_i64 (a := (r.getD i z54).f1) hs (by omega) (by omega)
      have q3 : 0 ≤ (r.getD i z54).f1 := by omega
      rw [hq, Bool.true_and] at g1 g2
      cases hb1 : bitB s (r.getD i z54).f0 with
      | true =>
        rw [hb1, Bool.not_true, Bool.false_and] at g1
        rw [g1 rfl]
        exact Ev.step (fun k => by simp only [spec_roGood.l1, if_pos q1, if_pos q2, e, caCall_f n _ _ h1 h2, Option.bind_some, hq, if_true, if_pos a1, b1, hb1] <;> exact rfl) (ev_now _)
      | false =>
        rw [hb1, Bool.not_false, Bool.true_and] at g1 g2
        cases hb2 : bitB s (r.getD i z54).f1 with
        | true =>
          rw [hb2, Bool.not_true, Bool.false_and] at g1
          rw [g1 rfl]
          exact Ev.step (fun k => by simp only [spec_roGood.l1, if_pos q1, if_pos q2, e, caCall_f n _ _ h1 h2, Option.bind_some, hq, if_true, if_pos a1, b1, hb1, Bool.false_eq_true, if_false, if_pos q3, b2, hb2] <;> exact rfl) (ev_now _)
        | false =>
          rw [hb2, Bool.not_false, Bool.true_and] at g1 g2
          have o1 := ownS (r.getD i z54).f0 a1 (by omega)
          have o2 := ownS (r.getD i z54).f1 q3 (by omega)
          have eo : Go.bits .or .i64 s (Go.bits .or .i64 (shl .i64 1 (r.getD i z54).f0) (shl .i64 1 (r.getD i z54).f1)) = orI s (pairOf (r.getD i z54)) := by
            rw [shl_i64_at _ a1 (by omega), shl_i64_at _ q3 (by omega), or_i64 o1 o2, or_i64 hs (orS o1 o2)]; rfl
          have EI := Aside0.mk (w64 (show -9223372036854775808 ≤ (i : Int) + 1 by omega) (by omega))
          have ih' := ih (i + 1) (orI s (pairOf (r.getD i z54))) (by omega) (orS hs (orS o1 o2))
          by_cases h0 : i = 0
          · have q4 : ¬ (i : Int) > 0 := by omega
            rw [decide_eq_true h0, Bool.true_or, Bool.true_and] at g1 g2
            exact Ev.step (fun k => by simp only [spec_roGood.l1, if_pos q1, if_pos q2, e, caCall_f n _ _ h1 h2, Option.bind_some, hq, if_true, if_pos a1, b1, hb1, Bool.false_eq_true, if_false, if_pos q3, b2, hb2, if_neg q4, eo, EI.out] <;> exact rfl) (ih' g1 g2)
          · have q4 : (i : Int) > 0 := by omega
            have EP : Aside0 (wrap64 ((i : Int) - 1) = ((i - 1 : Nat) : Int)) := ⟨by rw [w64 (by omega) (by omega)]; omega⟩
            have q5 : (0 : Int) ≤ ((i - 1 : Nat) : Int) := by omega
            have q6 : ((i - 1 : Nat) : Int) < (r.length : Int) := by omega
            have e' : rd_T54 r ((i - 1 : Nat) : Int) = r.getD (i - 1) z54 := rfl
            rw [decide_eq_false h0, Bool.false_or] at g1 g2
            cases hl : lessB (r.getD (i - 1) z54) (r.getD i z54) with
            | false =>
              rw [hl, Bool.false_and] at g1
              rw [g1 rfl]
              exact Ev.step (fun k => by simp only [spec_roGood.l1, if_pos q1, if_pos q2, e, caCall_f n _ _ h1 h2, Option.bind_some, hq, if_true, if_pos a1, b1, hb1, Bool.false_eq_true, if_false, if_pos q3, b2, hb2, if_pos q4, EP.out, if_pos q5, if_pos q6, e', roLess_f, hl] <;> exact rfl) (ev_now _)
            | true =>
              rw [hl, Bool.true_and] at g1 g2
              exact Ev.step (fun k => by simp only [spec_roGood.l1, if_pos q1, if_pos q2, e, caCall_f n _ _ h1 h2, Option.bind_some, hq, if_true, if_pos a1, b1, hb1, Bool.false_eq_true, if_false, if_pos q3, b2, hb2, if_pos q4, EP.out, if_pos q5, if_pos q6, e', roLess_f, hl, eo, EI.out] <;> exact rfl) (ih' g1 g2)
theorem roGood_l0 (n : Int) (h1 : 1 ≤ n) (h2 : n ≤ 10) (all : List (List S54)) (h : all.length ≤ 1048576 ∧ ∀ r ∈ all, r.length ≤ 1048576) : ∀ (d j : Nat), j + d = all.length → Ev (fun k => spec_roGood.l0 k n all (all.length : Int) (j : Int)) ((all.drop j).all (isRoundB n)) := by
  intro d
  induction d with
  | zero =>
    intro j hj
    have hj' : ¬ (j : Int) < (all.length : Int) := by omega
    refine Ev.step (fun k => by simp only [spec_roGood.l0, if_neg hj'] <;> exact rfl) ?_
    rw [List.drop_eq_nil_of_le (by omega)]; exact ev_now _
  | succ d ih =>
    intro j hj
    have q1 : (j : Int) < (all.length : Int) := by omega
    have q2 : (0 : Int) ≤ (j : Int) := by omega
    have hm : all.getD j [] ∈ all := by rw [getD_at _ _ _ (show j < all.length by omega)]; exact List.getElem_mem _
    have hb := h.1
    rw [drop_at all j [] (by omega), List.all_cons]
    refine Ev.step (fun k => by simp only [spec_roGood.l0, if_pos q1, if_pos q2] <;> exact rfl) ?_
    refine roGood_l1 n h1 h2 (all.getD j []) (h.2 _ hm) all j (by omega) _ (all.getD j []).length 0 0 (by omega) (by omega) (fun hf => ?_) (fun ht => ?_)
    · have hf' : isRoundB n (all.getD j []) = false := hf
      rw [hf', Bool.false_and]
    · have ht' : isRoundB n (all.getD j []) = true := ht
      rw [ht', Bool.true_and]
      exact ih (j + 1) (by omega)
theorem roGood_ev (n : Int) (l : List (List S54)) (h : l.length ≤ 1048576 ∧ ∀ r ∈ l, r.length ≤ 1048576) : Ev (fun k => spec_roGood.f k n l) (areRoundsB n l) := by
  unfold spec_roGood.f areRoundsB
  simp only [caFriends_f, Option.bind_some]
  by_cases h1 : 1 ≤ n
  · by_cases h2 : n ≤ 10
    · by_cases h3 : l.length ≤ 20
      · have h3' : ¬ (l.length : Int) > 20 := by omega
        simp only [h1, h2, h3, h3', decide_true, decide_false, Bool.true_and, if_true]
        have := roGood_l0 n h1 h2 l h l.length 0 (by omega)
        exact Ev.step (fun k => by simp only [spec_roGood.j0, Bool.false_eq_true, if_false] <;> exact rfl) (by simpa using this)
      · have h3' : (l.length : Int) > 20 := by omega
        simp only [h1, h2, h3, h3', decide_true, decide_false, Bool.true_and, Bool.false_and, if_true]
        exact Ev.step (fun k => by simp only [spec_roGood.j0, if_true] <;> exact rfl) (ev_now _)
    · simp only [h1, h2, decide_true, decide_false, Bool.true_and, Bool.false_and, Bool.false_eq_true, if_false]
      exact Ev.step (fun k => by simp only [spec_roGood.j0, if_true] <;> exact rfl) (ev_now _)
  · simp only [h1, decide_false, Bool.false_and, Bool.false_eq_true, if_false]
    exact Ev.step (fun k => by simp only [spec_roGood.j0, if_true] <;> exact rfl) (ev_now _)
theorem isRound_l0 (n : Int) (h2 : n ≤ 10) (r : List S54) (h : r.length ≤ 1048576) : ∀ (d i : Nat) (s : Int), i + d = r.length → 0 ≤ s ∧ s < 1024 →
    Ev (fun k => impl_isRound.l0 k n r s r (r.length : Int) (i : Int)) (roundAt n r d i s) := by
  intro d
  induction d with
  | zero =>
    intro i s hi hs
    have hi' : ¬ (i : Int) < (r.length : Int) := by omega
    exact Ev.step (fun k => by simp only [impl_isRound.l0, if_neg hi'] <;> exact rfl) (ev_now _)
  | succ d ih =>
    intro i s hi hs
    have q1 : (i : Int) < (r.length : Int) := by omega
    have q2 : (0 : Int) ≤ (i : Int) := by omega
    have e : rd_T54 r (i : Int) = r.getD i z54 := rfl
    rw [roundAt]
    cases hq : isCallB n (r.getD i z54).f0 (r.getD i z54).f1 with
    | false =>
      rw [Bool.false_and]
      exact Ev.step (fun k => by simp only [impl_isRound.l0, if_pos q1, if_pos q2, e, isCall_f, Option.bind_some, hq, Bool.false_eq_true, if_false] <;> exact rfl) (ev_now _)
    | true =>
      obtain ⟨a1, a2, a3⟩ := isCallB_bd hq
      have b1 := bit_u16 (a := (r.getD i z54).f0) hs a1 (by omega)
      have b2 := bit_u16 (a := (r.getD i z54).f1) hs (by omega) (by omega)
      have q3 : 0 ≤ (r.getD i z54).f1 := by omega
      rw [Bool.true_and]
      cases hb1 : bitB s (r.getD i z54).f0 with
      | true =>
        rw [Bool.not_true, Bool.false_and]
        exact Ev.step (fun k => by simp only [impl_isRound.l0, if_pos q1, if_pos q2, e, isCall_f, Option.bind_some, hq, if_true, if_pos a1, b1, hb1] <;> exact rfl) (ev_now _)
      | false =>
        rw [Bool.not_false, Bool.true_and]
        cases hb2 : bitB s (r.getD i z54).f1 with
        | true =>
          rw [Bool.not_true, Bool.false_and]
          exact Ev.step (fun k => by simp only [impl_isRound.l0, if_pos q1, if_pos q2, e, isCall_f, Option.bind_some, hq, if_true, if_pos a1, b1, hb1, Bool.false_eq_true, if_false, if_pos q3, b2, hb2] <;> exact rfl) (ev_now _)
        | false =>
          rw [Bool.not_false, Bool.true_and]
          have o1 := ownS (r.getD i z54).f0 a1 (by omega)
          have o2 := ownS (r.getD i z54).f1 q3 (by omega)
          have eo : Go.bits .or .u16 s (Go.bits .or .u16 (shl .u16 1 (r.getD i z54).f0) (shl .u16 1 (r.getD i z54).f1)) = orI s (pairOf (r.getD i z54)) := by
            rw [shl_u16_at _ a1 (by omega), shl_u16_at _ q3 (by omega), or_u16 o1 o2, or_u16 hs (orS o1 o2)]; rfl
          have EI := Aside0.mk (w64 (show -9223372036854775808 ≤ (i : Int) + 1 by omega) (by omega))
          have ih' := ih (i + 1) (orI s (pairOf (r.getD i z54))) (by omega) (orS hs (orS o1 o2))
          by_cases h0 : i = 0
          · have q4 : ¬ (i : Int) > 0 := by omega
            rw [decide_eq_true h0, Bool.true_or, Bool.true_and]
            exact Ev.step (fun k => by simp only [impl_isRound.l0, if_pos q1, if_pos q2, e, isCall_f, Option.bind_some, hq, if_true, if_pos a1, b1, hb1, Bool.false_eq_true, if_false, if_pos q3, b2, hb2, if_neg q4, eo, EI.out] <;> exact rfl) ih'
          · have q4 : (i : Int) > 0 := by omega
            have EP : Aside0 (wrap64 ((i : Int) - 1) = ((i - 1 : Nat) : Int)) := ⟨by rw [w64 (by omega) (by omega)]; omega⟩
            have q5 : (0 : Int) ≤ ((i - 1 : Nat) : Int) := by omega
            have q6 : ((i - 1 : Nat) : Int) < (r.length : Int) := by omega
            have e' : rd_T54 r ((i - 1 : Nat) : Int) = r.getD (i - 1) z54 := rfl
            rw [decide_eq_false h0, Bool.false_or]
            refine Ev.step (fun k => by simp only [impl_isRound.l0, if_pos q1, if_pos q2, e, isCall_f, Option.bind_some, hq, if_true, if_pos a1, b1, hb1, Bool.false_eq_true, if_false, if_pos q3, b2, hb2, if_pos q4, EP.out, if_pos q5, if_pos q6, e', eo, EI.out] <;> exact rfl) (Ev.bind (compareCalls_ev _ _) ?_)
            simp only [cmpP_less]
            cases hl : lessB (r.getD (i - 1) z54) (r.getD i z54) with
            | false => simp only [if_true, Bool.false_and]; exact ev_now _
            | true => simp only [Bool.true_eq_false, if_false, Bool.true_and]; exact ih'
theorem isRound_ev (n : Int) (h2 : n ≤ 10) (r : List S54) (h : r.length ≤ 1048576) : Ev (fun k => impl_isRound.f k n r) (isRoundB n r) := by
  unfold impl_isRound.f
  exact isRound_l0 n h2 r h r.length 0 0 (by omega) (by omega)
theorem anyO_ev (n : Int) (h2 : n ≤ 10) : ∀ l : List (List S54), (∀ r ∈ l, r.length ≤ 1048576) → Ev (fun k => Go.Proofs.Ytgcpbaipdpchfaa.H.anyO (impl_AreRounds.g k n) l) (!l.all (isRoundB n))
  | [], _ => ev_now _
  | r :: l, h => by
    have ih := anyO_ev n h2 l (fun x hx => h x (List.mem_cons_of_mem _ hx))
    show Ev (fun k => (impl_AreRounds.g k n r).bind fun b => if b = true then some true else Go.Proofs.Ytgcpbaipdpchfaa.H.anyO (impl_AreRounds.g k n) l) _
    have hg : Ev (fun k => impl_AreRounds.g k n r) (!isRoundB n r) := by
      unfold impl_AreRounds.g
      exact Ev.bind (isRound_ev n h2 r (h r List.mem_cons_self)) (ev_now _)
    refine Ev.bind hg ?_
    rw [List.all_cons]
    cases isRoundB n r with
    | false => simpa using ev_now _
    | true => simpa using ih
theorem areRounds_ev (n : Int) (l : List (List S54)) (h : l.length ≤ 1048576 ∧ ∀ r ∈ l, r.length ≤ 1048576) : Ev (fun k => impl_AreRounds.f k n l) (areRoundsB n l) := by
  unfold impl_AreRounds.f areRoundsB
  by_cases hc : 1 ≤ n ∧ n ≤ 10 ∧ l.length ≤ 20
  · simp only [if_pos hc, hc.1, hc.2.1, hc.2.2, decide_true, Bool.true_and]
    refine Ev.bind (anyO_ev n hc.2.1 l h.2) ?_
    rw [Bool.not_not]
    exact ev_now _
  · have e : (decide (1 ≤ n) && (decide (n ≤ 10) && (decide (l.length ≤ 20) && l.all (isRoundB n)))) = false := by
      rw [Bool.eq_false_iff]
      intro hh
      simp only [Bool.and_eq_true, decide_eq_true_eq] at hh
      exact hc ⟨hh.1, hh.2.1, hh.2.2.1⟩
    simp only [if_neg hc]
    rw [e]
    exact ev_now _
theorem areRoundsB_true {n : Int} {l : List (List S54)} (h : areRoundsB n l = true) : 1 ≤ n ∧ n ≤ 10 ∧ l.length ≤ 20 ∧ ∀ r ∈ l, isRoundB n r = true := by
  simp only [areRoundsB, Bool.and_eq_true, decide_eq_true_eq] at h
  exact ⟨h.1, h.2.1, h.2.2.1, List.all_eq_true.1 h.2.2.2⟩
theorem round_pairs (n : Int) (r : List S54) : ∀ (d i : Nat) (s : Int), i + d = r.length → roundAt n r d i s = true → pairsB n (prevP r i) (r.drop i) = true := by
  intro d
  induction d with
  | zero =>
    intro i s hi _
    rw [List.drop_eq_nil_of_le (by omega)]
    cases prevP r i <;> rfl
  | succ d ih =>
    intro i s hi h
    simp only [roundAt, Bool.and_eq_true, Bool.or_eq_true, decide_eq_true_eq] at h
    obtain ⟨h1, _, _, h2, h3⟩ := h
    have ih' := ih (i + 1) _ (by omega) h3
    rw [drop_at r i z54 (by omega)]
    have e : prevP r (i + 1) = some (r.getD i z54) := by simp [prevP]
    rw [e] at ih'
    rcases h2 with h2 | h2
    · subst h2
      simp only [prevP, if_true, pairsB, Bool.and_eq_true]
      exact ⟨h1, ih'⟩
    · by_cases h0 : i = 0
      · subst h0
        simp only [prevP, if_true, pairsB, Bool.and_eq_true]
        exact ⟨h1, ih'⟩
      · simp only [prevP, if_neg h0, pairsB, Bool.and_eq_true]
        exact ⟨h1, h2, ih'⟩
theorem round_all {n : Int} {l : List (List S54)} (h : areRoundsB n l = true) : ∀ r ∈ l, r.length ≤ 45 ∧ ∀ c ∈ r, isCallB n c.f0 c.f1 = true := by
  intro r hr
  obtain ⟨h1, h2, h3, h4⟩ := areRoundsB_true h
  have hp : pairsB n none r = true := by
    have := round_pairs n r r.length 0 0 (by omega) (h4 r hr)
    simpa [prevP] using this
  have hg : arePairsB n r = true := by simp [arePairsB, friendsB, h1, h2, hp]
  exact ⟨(pairs_45 hg).2.2, arePairs_all hg⟩

/-! rows put together -/
theorem concat_l1 (l : List (List S54)) (hl : l.length ≤ 1048576) (h : ∀ r ∈ l, r.length ≤ 1048576) : ∀ (d i : Nat) (acc : List S54), i + d = l.length → acc.length ≤ i * 1048576 →
    Ev (fun k => impl_Call_59.l1 k acc l (l.length : Int) (i : Int)) (acc ++ (l.drop i).flatten) := by
  intro d
  induction d with
  | zero =>
    intro i acc hi ha
    have hi' : ¬ (i : Int) < (l.length : Int) := by omega
    refine Ev.step (fun k => by simp only [impl_Call_59.l1, if_neg hi'] <;> exact rfl) ?_
    rw [List.drop_eq_nil_of_le (by omega), List.flatten_nil, List.append_nil]; exact ev_now _
  | succ d ih =>
    intro i acc hi ha
    have q1 : (i : Int) < (l.length : Int) := by omega
    have q2 : (0 : Int) ≤ (i : Int) := by omega
    have hm : l.getD i [] ∈ l := by rw [getD_at _ _ _ (show i < l.length by omega)]; exact List.getElem_mem _
    have hr := h _ hm
    have q3 : acc.length + (rd_L2 l (i : Int)).length < 8796093022208 := by show acc.length + (l.getD i []).length < _; omega
    have ei := w64 (show -9223372036854775808 ≤ (i : Int) + 1 by omega) (by omega)
    refine Ev.step (fun k => by simp only [impl_Call_59.l1, if_pos q1, if_pos q2, if_pos q3, ei] <;> exact rfl) ?_
    rw [drop_at l i [] (by omega), List.flatten_cons, ← List.append_assoc]
    exact ih (i + 1) (acc ++ l.getD i []) (by omega) (by rw [List.length_append]; omega)
theorem concat_l0 (l : List (List S54)) (hl : l.length ≤ 1048576) (h : ∀ r ∈ l, r.length ≤ 1048576) : ∀ (d i s : Nat), i + d = l.length → s ≤ i * 1048576 →
    Ev (fun k => impl_Call_59.l0 k l (s : Int) l (l.length : Int) (i : Int)) l.flatten := by
  intro d
  induction d with
  | zero =>
    intro i s hi hs
    have hi' : ¬ (i : Int) < (l.length : Int) := by omega
    have q1 : (0 : Int) ≤ (s : Int) := by omega
    have q2 : 0 ≤ wrap64 (8796093022208 - (s : Int)) := by rw [w64 (by omega) (by omega)]; omega
    refine Ev.step (fun k => by simp only [impl_Call_59.l0, if_neg hi', if_pos q1, if_pos q2] <;> exact rfl) ?_
    have := concat_l1 l hl h l.length 0 [] (by omega) (by simp)
    simpa using this
  | succ d ih =>
    intro i s hi hs
    have q1 : (i : Int) < (l.length : Int) := by omega
    have q2 : (0 : Int) ≤ (i : Int) := by omega
    have hm : l.getD i [] ∈ l := by rw [getD_at _ _ _ (show i < l.length by omega)]; exact List.getElem_mem _
    have hr := h _ hm
    have h2 : i ≤ 1048576 := by omega
    have es : wrap64 ((s : Int) + ((rd_L2 l (i : Int)).length : Int)) = ((s + (l.getD i []).length : Nat) : Int) := by
      show wrap64 ((s : Int) + ((l.getD i []).length : Int)) = _
      rw [w64 (by omega) (by omega)]; omega
    have q3 : (0 : Int) ≤ ((s + (l.getD i []).length : Nat) : Int) := by omega
    refine Ev.step (fun k => by simp only [impl_Call_59.l0, if_pos q1, if_pos q2, es, if_pos q3, w64 (show -9223372036854775808 ≤ (i : Int) + 1 by omega) (by omega)] <;> exact rfl) ?_
    exact ih (i + 1) _ (by omega) (by omega)
theorem concat_ev (l : List (List S54)) (hl : l.length ≤ 1048576) (h : ∀ r ∈ l, r.length ≤ 1048576) : Ev (fun k => impl_Call_59.f k l) l.flatten := by
  unfold impl_Call_59.f
  exact concat_l0 l hl h l.length 0 0 (by omega) (by omega)
theorem flatten_le (b : Nat) : ∀ l : List (List S54), (∀ r ∈ l, r.length ≤ b) → l.flatten.length ≤ l.length * b
  | [], _ => Nat.zero_le _
  | r :: l, h => by
    have h1 := flatten_le b l (fun x hx => h x (List.mem_cons_of_mem _ hx))
    have h2 := h r List.mem_cons_self
    rw [List.flatten_cons, List.length_append, List.length_cons, Nat.succ_mul]
    omega
theorem flat_all {n : Int} {l : List (List S54)} (h : areRoundsB n l = true) : l.flatten.length ≤ 900 ∧ ∀ c ∈ l.flatten, isCallB n c.f0 c.f1 = true := by
  obtain ⟨h1, h2, h3, h4⟩ := areRoundsB_true h
  have h5 := round_all h
  refine ⟨?_, fun c hc => ?_⟩
  · have := flatten_le 45 l (fun r hr => (h5 r hr).1)
    omega
  · obtain ⟨r, hr, hc⟩ := List.mem_flatten.1 hc
    exact (h5 r hr).2 c hc

/-! rounds, played -/
theorem roPlay_l1 {n : Nat} (hn : n ≤ 10) (l : List (List S54)) (j : Nat) (hj : j ≤ 1048576) (r : List S54) (h : r.length ≤ 1048576) (hc : ∀ c ∈ r, isCallB n c.f0 c.f1 = true) (R : List Int) : ∀ (d i : Nat) (s : List Int), i + d = r.length → SmallP n s →
    Ev (fun k => spec_roPlay.l0 k ((r.drop i).foldl meetP s) l (l.length : Int) ((j + 1 : Nat) : Int)) R → Ev (fun k => spec_roPlay.l1 k s l (l.length : Int) (j : Int) r (r.length : Int) (i : Int)) R := by
  intro d
  induction d with
  | zero =>
    intro i s hi hs hr
    have hi' : ¬ (i : Int) < (r.length : Int) := by omega
    rw [List.drop_eq_nil_of_le (by omega), List.foldl_nil] at hr
    exact Ev.step (fun k => by simp only [spec_roPlay.l1, if_neg hi', w64 (show -9223372036854775808 ≤ (j : Int) + 1 by omega) (by omega)] <;> exact rfl) hr
  | succ d ih =>
    intro i s hi hs hr
    have q1 : (i : Int) < (r.length : Int) := by omega
    have q2 : (0 : Int) ≤ (i : Int) := by omega
    have hm := hc (r.getD i z54) (by rw [getD_at _ _ _ (show i < r.length by omega)]; exact List.getElem_mem _)
    have e3 : spec_caMake.f s (rd_T54 r (i : Int)).f0 (rd_T54 r (i : Int)).f1 = some (meetP s (r.getD i z54)) := caMake_f hn hs _ hm
    rw [drop_at r i z54 (by omega), List.foldl_cons] at hr
    refine Ev.step (fun k => by simp only [spec_roPlay.l1, if_pos q1, if_pos q2, e3, Option.bind_some, w64 (show -9223372036854775808 ≤ (i : Int) + 1 by omega) (by omega)] <;> exact rfl) ?_
    exact ih (i + 1) _ (by omega) (smallP_meet hs _ hm) hr
theorem roPlay_l0 {n : Nat} (hn : n ≤ 10) (l : List (List S54)) (hl : l.length ≤ 1048576) (h : ∀ r ∈ l, r.length ≤ 1048576 ∧ ∀ c ∈ r, isCallB n c.f0 c.f1 = true) : ∀ (d j : Nat) (s : List Int), j + d = l.length → SmallP n s →
    Ev (fun k => spec_roPlay.l0 k s l (l.length : Int) (j : Int)) ((l.drop j).flatten.foldl meetP s) := by
  intro d
  induction d with
  | zero =>
    intro j s hj hs
    have hj' : ¬ (j : Int) < (l.length : Int) := by omega
    refine Ev.step (fun k => by simp only [spec_roPlay.l0, if_neg hj'] <;> exact rfl) ?_
    rw [List.drop_eq_nil_of_le (by omega)]; exact ev_now _
  | succ d ih =>
    intro j s hj hs
    have q1 : (j : Int) < (l.length : Int) := by omega
    have q2 : (0 : Int) ≤ (j : Int) := by omega
    have hm : l.getD j [] ∈ l := by rw [getD_at _ _ _ (show j < l.length by omega)]; exact List.getElem_mem _
    obtain ⟨g1, g2⟩ := h _ hm
    refine Ev.step (fun k => by simp only [spec_roPlay.l0, if_pos q1, if_pos q2] <;> exact rfl) ?_
    refine roPlay_l1 hn l j (by omega) (l.getD j []) g1 g2 _ (l.getD j []).length 0 s (by omega) hs ?_
    rw [drop_at l j [] (by omega), List.flatten_cons, List.foldl_append]
    exact ih (j + 1) _ (by omega) (smallP_foldl _ _ hs g2)
theorem roPlay_ev {n : Int} (l : List (List S54)) (h1 : 1 ≤ n) (h2 : n ≤ 10) (hl : l.length ≤ 1048576) (h : ∀ r ∈ l, r.length ≤ 1048576 ∧ ∀ c ∈ r, isCallB n c.f0 c.f1 = true) : Ev (fun k => spec_roPlay.f k n l) (playP n.toNat l.flatten) := by
  unfold spec_roPlay.f
  refine Ev.bind (caStart_ev n h1 h2) ?_
  have := roPlay_l0 (n := n.toNat) (by omega) l hl (fun r hr => ⟨(h r hr).1, fun c hc => by rw [show ((n.toNat : Nat) : Int) = n by omega]; exact (h r hr).2 c hc⟩) l.length 0 (startP n.toNat) (by omega) (smallP_start _)
  rw [List.drop_zero] at this
  exact this

def knowP (n : Int) (l : List (List S54)) (i : Nat) : Bool := allP n.toNat (playP n.toNat (l.take i).flatten)
def resP (n : Int) (l : List (List S54)) : Int × Bool := if areRoundsB n l = true then Go.Proofs.Ytgcpbaipdpchfaa.H.neededP (knowP n l) (l.length + 1) 0 else (0, false)
theorem flat_take {n : Int} {l : List (List S54)} (h : areRoundsB n l = true) (i : Nat) : (l.take i).flatten.length ≤ 900 ∧ ∀ c ∈ (l.take i).flatten, isCallB n c.f0 c.f1 = true := by
  obtain ⟨h1, h2, h3, h4⟩ := areRoundsB_true h
  have h5 := round_all h
  refine ⟨?_, fun c hc => ?_⟩
  · have := flatten_le 45 (l.take i) (fun r hr => (h5 r (List.mem_of_mem_take hr)).1)
    have hl : (l.take i).length ≤ 20 := by rw [List.length_take]; omega
    omega
  · obtain ⟨r, hr, hc⟩ := List.mem_flatten.1 hc
    exact (h5 r (List.mem_of_mem_take hr)).2 c hc
theorem spec_l0 {n : Int} {l : List (List S54)} (hg : areRoundsB n l = true) (h : RowsC l) : ∀ (d : Nat) (i : Nat), i + d = l.length + 1 →
    Ev (fun k => spec_RoundsNeeded.l0 k n l (i : Int)) (Go.Proofs.Ytgcpbaipdpchfaa.H.neededP (knowP n l) d i) := by
  intro d
  obtain ⟨h1, h2, h3, h4⟩ := areRoundsB_true hg
  induction d with
  | zero =>
    intro i hi
    refine ev_step (f := fun _ => some (0, false)) (fun k => ?_) (ev_now _)
    simp only [spec_RoundsNeeded.l0]; rw [if_neg (by omega)]
  | succ d ih =>
    intro i hi
    obtain ⟨t1, t2⟩ := flat_take hg i
    have e : wrap64 ((i : Int) + 1) = ((i + 1 : Nat) : Int) := by rw [w64 (by omega) (by omega)]; omega
    have q1 : (0 : Int) ≤ (i : Int) := by omega
    have q2 : (i : Int) ≤ (l.length : Int) := by omega
    refine Ev.step (fun k => by simp only [spec_RoundsNeeded.l0, e, if_pos q1, if_pos q2, Int.toNat_natCast] <;> exact rfl) ?_
    refine Ev.bind (roPlay_ev (l.take i) h1 h2 (by rw [List.length_take]; omega) (fun r hr => ⟨h.2 r (List.mem_of_mem_take hr), (round_all hg r (List.mem_of_mem_take hr)).2⟩)) ?_
    refine Ev.bind (caAll_ev (by omega) (smallP_of h1 t2)) ?_
    simp only [Go.Proofs.Ytgcpbaipdpchfaa.H.neededP]
    cases hq : knowP n l i with
    | true => rw [show allP n.toNat (playP n.toNat (l.take i).flatten) = true from hq]; simpa using ev_now _
    | false => rw [show allP n.toNat (playP n.toNat (l.take i).flatten) = false from hq]; simpa using ih (i + 1) (by omega)
theorem spec_ev (n : Int) (l : List (List S54)) (h : RowsC l) : Ev (fun k => spec_RoundsNeeded.f k n l) (resP n l) := by
  unfold spec_RoundsNeeded.f resP
  refine Ev.bind (roGood_ev n l h) ?_
  cases hg : areRoundsB n l with
  | false => simpa using ev_now _
  | true =>
    simp only [if_true]
    exact spec_l0 hg h (l.length + 1) 0 (by omega)
theorem lit_ev {n : Int} {l : List (List S54)} (hg : areRoundsB n l = true) (h : RowsC l) (i : Nat) (hi : i < l.length + 1) : Ev (fun k => impl_RoundsNeeded.g k n l i) (knowP n l i) := by
  unfold impl_RoundsNeeded.g impl_RoundsNeededLit1.f
  obtain ⟨h1, h2, h3, h4⟩ := areRoundsB_true hg
  obtain ⟨t1, t2⟩ := flat_take hg i
  have q1 : (0 : Int) ≤ (i : Int) := by omega
  have q2 : (i : Int) ≤ (l.length : Int) := by omega
  simp only [if_pos q1, if_pos q2, Int.toNat_natCast]
  refine Ev.bind (Ev.bind (concat_ev (l.take i) (by rw [List.length_take]; omega) (fun r hr => h.2 r (List.mem_of_mem_take hr))) (Ev.bind (after_ev _ h1 h2 (by omega) t2) (ev_now _))) ?_
  exact allKnow_ev (by omega) (smallP_of h1 t2)
theorem impl_ev (n : Int) (l : List (List S54)) (h : RowsC l) : Ev (fun k => impl_RoundsNeeded.f k n l) (resP n l) := by
  unfold impl_RoundsNeeded.f resP
  refine Ev.bind (areRounds_ev n l h) ?_
  cases hg : areRoundsB n l with
  | false => simpa using ev_now _
  | true =>
    simp only [if_true]
    exact ev_neededO h.1 (fun i hi => lit_ev hg h i hi)
theorem FnExactRoundsNeeded : ∀ (a0 : Int) (l1 : (List (List S63))), (Lit.int .i64 a0).wf = true → l1.length ≤ 9223372036854775807 → (∀ r ∈ l1, r.length ≤ 9223372036854775807) → ∃ k, laws_FnExactRoundsNeeded.f k a0 l1 = some true := by
  intro a0 l1 w0 hl1 hr1
  apply Ev.rounds
  unfold laws_FnExactRoundsNeeded.f
  refine Ev.bind (szCallSS_ev l1 hl1 hr1) ?_
  by_cases h1 : szR l1 < 0
  · simp only [if_pos h1]
    exact ev_now _
  · simp only [if_neg h1]
    obtain ⟨s1, s2⟩ := szR_rows h1
    have g1 := toRows_rows s1
    refine Ev.bind (toCallSS_ev l1 s1) ?_
    refine Ev.bind (spec_ev a0 (toRows l1) g1) ?_
    refine Ev.bind (toCallSS_ev l1 s1) ?_
    refine Ev.bind (impl_ev a0 (toRows l1) g1) ?_
    simp only [if_true, bne_self_eq_false]
    refine Ev.step (fun k => by simp only [laws_FnExactRoundsNeeded.j0, Bool.false_eq_true, if_false] <;> exact rfl) ?_
    refine Ev.bind (toCallSS_ev l1 s1) ?_
    refine Ev.bind (eqCallSS_ev _ g1) ?_
    simp only [if_true]
    exact ev_now _

end Go.Proofs.Ytgcpbaipdpchfaa.Pure
