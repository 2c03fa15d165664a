/- The pure side of FnExactParseCalls: program and reference agree at every argument. No condition beside what an argument is. -/
import Derived.Test.YtnlmalicpckfbaaDoorPFnExactParseCallsx9
import Derived.Test.YtnlmalicpckfbaaDoorPBase
namespace Go.Proofs.YtnlmalicpckfbaaDoor.Pure
open Go.RowKit Go.Proofs.YtnlmalicpckfbaaDoor.PFnExactParseCalls Go.Proofs.YtnlmalicpckfbaaDoorW.PrintWords Go.Proofs.YtnlmalicpckfbaaDoorW.PrintLast Go.Proofs.YtnlmalicpckfbaaDoorW.PrintMore Go.Proofs.YtnlmalicpckfbaaDoor.PB
set_option linter.unusedSimpArgs false
set_option linter.unusedVariables false
/-! calls: read, compared, marked -/
theorem eqCallS_l0 (a : List S41) (h : a.length ≤ 1048576) : ∀ (d : Nat) (i : Int), 0 ≤ i → i + d = a.length → Ev (fun k => laws_eqCallS.l0 k a a i) true := by
  intro d
  induction d with
  | zero =>
    intro i h0 hi
    refine ev_step (f := fun _ => some true) (fun k => ?_) (ev_now _)
    simp only [laws_eqCallS.l0]; rw [if_neg (by omega)]
  | succ d ih =>
    intro i h0 hi
    refine ev_step (f := fun k => laws_eqCallS.l0 k a a (i + 1)) (fun k => ?_) (ih _ (by omega) (by omega))
    simp only [laws_eqCallS.l0, laws_eqCall.f, if_true, Option.bind_some]
    rw [if_pos (by omega), if_pos h0, if_pos (by omega), w64 (by omega) (by omega)]
theorem eqCallS_ev (a : List S41) (h : a.length ≤ 1048576) : Ev (fun k => laws_eqCallS.f k a a) true := by
  unfold laws_eqCallS.f
  simp only [if_true]
  exact eqCallS_l0 a h a.length 0 (by omega) (by omega)

/-! calls: marked -/
def markedC (n : Nat) (m : Int) : List S41 := (List.range n).map fun i : Nat => ⟨m + 2 * (i : Int), m + 2 * (i : Int) + 1⟩
theorem markCallS_l0 (n : Nat) (m : Int) (hn : n ≤ 1048576) (hm : 0 ≤ m) (hm2 : m ≤ 1099511627776) : ∀ (d : Nat) (i : Int) (acc : List S41), 0 ≤ i → i + d = n → acc.length = n →
    (∀ j : Nat, (j : Int) < i → acc.getD j z41 = (markedC n m).getD j z41) → Ev (fun k => laws_markCallS.l0 k acc (m + 2 * i) i) (m + 2 * n, markedC n m) := by
  intro d
  induction d with
  | zero =>
    intro i acc h0 hi hl hacc
    refine ev_step (f := fun _ => some (m + 2 * i, acc)) (fun k => ?_) ?_
    · simp only [laws_markCallS.l0]; rw [if_neg (by omega)]
    · have e : acc = markedC n m := ext_getD z41 (by rw [hl]; simp [markedC]) (fun j hj => hacc j (by omega))
      rw [e, show m + 2 * i = m + 2 * n by omega]; exact ev_now _
  | succ d ih =>
    intro i acc h0 hi hl hacc
    refine ev_step (f := fun k => laws_markCallS.l0 k (acc.set i.toNat ⟨m + 2 * i, m + 2 * i + 1⟩) (m + 2 * (i + 1)) (i + 1)) (fun k => ?_) ?_
    · have hi' : i.toNat < acc.length := by omega
      simp only [laws_markCallS.l0, Option.bind_some, rd_T41]
      rw [if_pos (by omega), if_pos h0, w64 (by omega) (by omega), w64 (by omega) (by omega), w64 (by omega) (by omega), show m + 2 * i + 1 + 1 = m + 2 * (i + 1) by omega, List.set_set, getD_set _ _ _ _ _ hi']
      simp
    · refine ih (i + 1) _ (by omega) (by omega) (by simpa using hl) (fun j hj => ?_)
      rw [getD_set _ _ _ _ _ (by omega)]
      split
      · rename_i e
        subst e
        rw [markedC, getD_range_map _ _ _ _ (by omega), show ((i.toNat : Nat) : Int) = i by omega]
      · exact hacc j (by omega)
theorem markCallS_ev (l : List S41) (m : Int) (hn : l.length ≤ 1048576) (hm : 0 ≤ m) (hm2 : m ≤ 1099511627776) : Ev (fun k => laws_markCallS.f k l m) (m + 2 * (l.length : Int), markedC l.length m) := by
  unfold laws_markCallS.f
  have := markCallS_l0 l.length m hn hm hm2 l.length 0 l (by omega) (by omega) rfl (fun j hj => by omega)
  simpa using this

/-! calls: held -/
theorem heldCallS_l0 (n : Nat) (m : Int) (hn : n ≤ 1048576) (hm : 0 ≤ m) (hm2 : m ≤ 1099511627776) : ∀ (d : Nat) (i : Int), 0 ≤ i → i + d = n → Ev (fun k => laws_heldCallS.l0 k (markedC n m) (m + 2 * i) i) (m + 2 * n) := by
  intro d
  have hl : (markedC n m).length = n := by simp [markedC]
  induction d with
  | zero =>
    intro i h0 hi
    refine ev_step (f := fun _ => some (m + 2 * i)) (fun k => ?_) ?_
    · simp only [laws_heldCallS.l0]; rw [if_neg (by omega)]
    · rw [show m + 2 * i = m + 2 * n by omega]; exact ev_now _
  | succ d ih =>
    intro i h0 hi
    refine ev_step (f := fun k => laws_heldCallS.l0 k (markedC n m) (m + 2 * (i + 1)) (i + 1)) (fun k => ?_) (ih _ (by omega) (by omega))
    have e : rd_T41 (markedC n m) i = ⟨m + 2 * i, m + 2 * i + 1⟩ := by
      show (markedC n m).getD i.toNat z41 = _
      rw [markedC, getD_range_map _ _ _ _ (by omega), show ((i.toNat : Nat) : Int) = i by omega]
    simp only [laws_heldCallS.l0, e, if_true]
    rw [if_pos (by omega), if_pos h0, w64 (by omega) (by omega), w64 (by omega) (by omega), w64 (by omega) (by omega), if_pos rfl, show m + 2 * i + 1 + 1 = m + 2 * (i + 1) by omega]
theorem heldCallS_ev (n : Nat) (m : Int) (hn : n ≤ 1048576) (hm : 0 ≤ m) (hm2 : m ≤ 1099511627776) : Ev (fun k => laws_heldCallS.f k (markedC n m) m) (m + 2 * (n : Int)) := by
  unfold laws_heldCallS.f
  have := heldCallS_l0 n m hn hm hm2 n 0 (by omega) (by omega)
  simpa using this

/-! spec.caGood -/
theorem caCall_f (n a b : Int) (h1 : 1 ≤ n) (h2 : n ≤ 10) : spec_caCall.f n a b = some (isCallB n a b) := by
  unfold spec_caCall.f spec_l1In.f isCallB
  rw [w64 (by omega) (by omega)]
  by_cases g1 : 0 ≤ a
  · by_cases g2 : a ≤ n - 1
    · rw [w64 (by omega) (by omega)]
      by_cases g3 : a + 1 ≤ b <;> by_cases g4 : b ≤ n - 1
      · have e1 : a < b := by omega
        have e2 : b < n := by omega
        simp [g1, g2, g3, g4, e1, e2]
      · have e1 : a < b := by omega
        have e2 : ¬ b < n := by omega
        simp [g1, g2, g3, g4, e1, e2]
      · have e1 : ¬ a < b := by omega
        simp [g1, g2, g3, e1]
      · have e1 : ¬ a < b := by omega
        simp [g1, g2, g3, e1]
    · by_cases g3 : a < b
      · have e2 : ¬ b < n := by omega
        simp [g1, g2, e2]
      · simp [g1, g2, g3]
  · simp [g1]
theorem areCallsB_true {n : Int} {cs : List S41} (h : areCallsB n cs = true) : 1 ≤ n ∧ n ≤ 10 ∧ cs.length ≤ 60 ∧ ∀ c ∈ cs, isCallB n c.f0 c.f1 = true := by
  simp [areCallsB] at h
  exact h

/-! strings as lists of bytes -/
theorem bext {a b : ByteArray} (h : a.data.toList = b.data.toList) : a = b := by
  cases a with | mk a => cases b with | mk b => exact congrArg ByteArray.mk (Array.ext' h)
theorem bapp (a b : ByteArray) : (a ++ b).data.toList = a.data.toList ++ b.data.toList := by rw [ByteArray.data_append, Array.toList_append]
theorem bsize (a : ByteArray) : a.size = a.data.toList.length := (Array.length_toList).symm
theorem bsize_app (a b : ByteArray) : (a ++ b).size = a.size + b.size := by rw [bsize, bsize, bsize, bapp, List.length_append]

/-! a text cut at a byte -/
def sp (c : UInt8) : List UInt8 → List (List UInt8)
  | [] => [[]]
  | x :: l => if x = c then [] :: sp c l else match sp c l with
    | [] => [[x]]
    | y :: r => (x :: y) :: r
def spW (c : UInt8) (pre : List UInt8) (l : List UInt8) : List (List UInt8) := match sp c l with
  | [] => [pre]
  | y :: r => (pre ++ y) :: r
theorem sp_some (c : UInt8) : ∀ l, ∃ y r, sp c l = y :: r
  | [] => ⟨[], [], rfl⟩
  | x :: l => by
    obtain ⟨y, r, h⟩ := sp_some c l
    unfold sp
    rw [h]
    split
    · exact ⟨_, _, rfl⟩
    · exact ⟨_, _, rfl⟩
theorem spW_nil (c : UInt8) (pre : List UInt8) : spW c pre [] = [pre] := by simp [spW, sp]
theorem spW_hit (c : UInt8) (pre l : List UInt8) : spW c pre (c :: l) = pre :: sp c l := by simp [spW, sp]
theorem spW_miss (c x : UInt8) (pre l : List UInt8) (h : x ≠ c) : spW c pre (x :: l) = spW c (pre ++ [x]) l := by
  obtain ⟨y, r, e⟩ := sp_some c l
  simp [spW, sp, h, e]
theorem spW_start (c : UInt8) (l : List UInt8) : spW c [] l = sp c l := by
  obtain ⟨y, r, e⟩ := sp_some c l
  simp [spW, e]
theorem sp_len (c : UInt8) : ∀ l, ((sp c l).map List.length).sum + (sp c l).length = l.length + 1
  | [] => rfl
  | x :: l => by
    have ih := sp_len c l
    obtain ⟨y, r, e⟩ := sp_some c l
    unfold sp
    split
    · simp only [List.map_cons, List.sum_cons, List.length_cons, List.length_nil]; omega
    · rw [e] at ih ⊢
      simp only [List.map_cons, List.sum_cons, List.length_cons] at ih ⊢
      omega
theorem count_none (c : UInt8) : ∀ l : List UInt8, Lib.indexByte l c = -1 → l.count c = 0
  | [], _ => rfl
  | x :: l, h => by
    unfold Lib.indexByte at h
    by_cases hx : (x == c) = true
    · rw [if_pos hx] at h; cases h
    · rw [if_neg hx] at h
      have hx' : x ≠ c := fun e => hx (by simp [e])
      by_cases hi : (Lib.indexByte l c == -1) = true
      · rw [List.count_cons_of_ne (by simpa using hx')]; exact count_none c l (by simpa using hi)
      · rw [if_neg hi] at h
        have := Lib.indexByte_ge l c
        omega
theorem splitK_sp (c : UInt8) : ∀ l : List UInt8, Lib.splitK [c] 0 (l.count c) l = sp c l
  | [] => rfl
  | x :: l => by
    have ih := splitK_sp c l
    by_cases h : x = c
    · subst h
      rw [List.count_cons_self, Lib.splitK, Lib.index_one, Lib.indexByte, if_pos (beq_self_eq_true x)]
      rw [if_neg (by decide)]
      simp only [List.length_cons, List.length_nil]
      show [] :: Lib.splitK [x] 0 (l.count x) l = _
      rw [ih, sp, if_pos rfl]
    · rw [List.count_cons_of_ne (by simpa using h), sp, if_neg h]
      cases hk : l.count c with
      | zero => rw [hk, Lib.splitK] at ih; rw [← ih, Lib.splitK]
      | succ k =>
        have hi : Lib.indexByte l c ≠ -1 := fun e => by rw [count_none c l e] at hk; cases hk
        have hge := Lib.indexByte_ge l c
        obtain ⟨i, ei⟩ : ∃ i : Nat, Lib.indexByte l c = (i : Int) := ⟨(Lib.indexByte l c).toNat, by omega⟩
        have hb : ¬ ((Lib.indexByte l c == -1) = true) := by simpa using hi
        rw [hk, Lib.splitK, Lib.index_one, if_neg hb, ei] at ih
        have hx : ¬ ((x == c) = true) := by simpa using h
        rw [← ih, Lib.splitK, Lib.index_one, Lib.indexByte, if_neg hx, if_neg hb, ei]
        rw [if_neg (by simp; omega)]
        rw [show ((i : Int) + 1).toNat = i + 1 by omega, show ((i : Int)).toNat = i by omega]
        rfl
def mkB (l : List UInt8) : ByteArray := ⟨l.toArray⟩
theorem mkB_data (b : ByteArray) : mkB b.data.toList = b := bext (by simp [mkB])
def pieces (c : UInt8) (s : ByteArray) : List ByteArray := (sp c s.data.toList).map mkB
theorem splitB_pieces (c : UInt8) (s : ByteArray) : Lib.splitB ⟨#[c]⟩ 0 (Lib.countB s ⟨#[c]⟩) s = pieces c s := by
  have h := Lib.splitB_data ⟨#[c]⟩ 0 (Lib.countB s ⟨#[c]⟩) s
  have e : Lib.countB s ⟨#[c]⟩ = s.data.toList.count c := Lib.count_one c _
  rw [e] at h ⊢
  rw [show (⟨#[c]⟩ : ByteArray).data.toList = [c] from rfl, splitK_sp] at h
  rw [pieces, ← h, List.map_map]
  have : ∀ xs : List ByteArray, xs = xs.map (mkB ∘ fun b => b.data.toList) := by
    intro xs
    induction xs with
    | nil => rfl
    | cons x xs ih => rw [List.map_cons, ← ih]; simp [mkB_data]
  exact this _
theorem pieces_len (c : UInt8) (s : ByteArray) : ((pieces c s).map ByteArray.size).sum + (pieces c s).length = s.size + 1 := by
  have h := sp_len c s.data.toList
  have e : (pieces c s).map ByteArray.size = (sp c s.data.toList).map List.length := by
    rw [pieces, List.map_map]
    congr 1
  rw [e, pieces, List.length_map, h, bsize]
theorem split_f (c : UInt8) (s : ByteArray) (h : s.size ≤ 1048576) : strings_Split.f s ⟨#[c]⟩ = some (pieces c s) := by
  unfold strings_Split.f
  rw [if_pos ⟨h, rfl⟩, splitB_pieces]
theorem data_at (s : ByteArray) (i : Nat) (h : i < s.size) : s.data.toList.drop i = s[i] :: s.data.toList.drop (i + 1) := by
  have h' : i < s.data.toList.length := by rw [Array.length_toList]; exact h
  rw [List.drop_eq_getElem_cons h']
  congr 1
theorem l1Split_l0 (s : ByteArray) (c : UInt8) (ci : Int) (hc : ((c.toNat : Nat) : Int) = ci) (hs : s.size ≤ 1048576) : ∀ (d i a : Nat) (out : List ByteArray), a ≤ i → i + d = s.size → out.length ≤ i →
    Ev (fun k => spec_l1Split.l0 k s ci out (a : Int) (i : Int)) (out ++ (spW c ((s.data.toList.drop a).take (i - a)) (s.data.toList.drop i)).map mkB) := by
  intro d
  induction d with
  | zero =>
    intro i a out ha hi ho
    have q0 : ¬ (i : Int) < (s.size : Int) := by omega
    have q1 : (0 : Int) ≤ (a : Int) := by omega
    have q2 : (a : Int) ≤ (s.size : Int) := by omega
    have q3 : out.length < 8796093022208 := by omega
    refine Ev.step (fun k => by simp only [spec_l1Split.l0, if_neg q0, if_pos q1, if_pos q2, if_pos q3] <;> exact rfl) ?_
    have e : (spW c ((s.data.toList.drop a).take (i - a)) (s.data.toList.drop i)).map mkB = [s.extract (a : Int).toNat s.size] := by
      have hd : s.data.toList.drop i = [] := List.drop_eq_nil_of_le (by rw [Array.length_toList]; show s.size ≤ i; omega)
      rw [hd, spW_nil, List.map_cons, List.map_nil]
      congr 1
      apply bext
      rw [Lib.extract_data]
      simp [mkB, show s.size = i by omega]
    rw [e]
    exact ev_now _
  | succ d ih =>
    intro i a out ha hi ho
    have hlt : i < s.size := by omega
    have q0 : (i : Int) < (s.size : Int) := by omega
    have q1 : (0 : Int) ≤ (i : Int) := by omega
    have ei := w64 (show -9223372036854775808 ≤ (i : Int) + 1 by omega) (by omega)
    have eb : bt s (i : Int) = ((s[i].toNat : Nat) : Int) := by simp [bt, hlt]
    rw [data_at s i hlt]
    by_cases h : s[i] = c
    · have p1 : bt s (i : Int) = ci := by rw [eb, h, hc]
      have p2 : (0 : Int) ≤ (a : Int) := by omega
      have p3 : (a : Int) ≤ (i : Int) := by omega
      have p4 : (i : Int) ≤ (s.size : Int) := by omega
      have p5 : out.length < 8796093022208 := by omega
      refine Ev.step (fun k => by simp only [spec_l1Split.l0, if_pos q0, if_pos q1, if_pos p1, if_pos p2, if_pos p3, if_pos p4, if_pos p5, ei] <;> exact rfl) ?_
      have hn := ih (i + 1) (i + 1) (out ++ [s.extract a i]) (Nat.le_refl _) (by omega) (by rw [List.length_append]; simp; omega)
      rw [Nat.sub_self, List.take_zero, spW_start] at hn
      rw [h, spW_hit, List.map_cons]
      have e : mkB ((s.data.toList.drop a).take (i - a)) = s.extract a i := by apply bext; rw [Lib.extract_data]; simp [mkB]
      rw [e]
      rw [List.append_assoc] at hn
      exact hn
    · have p1 : ¬ bt s (i : Int) = ci := by
        rw [eb, ← hc]
        intro e
        exact h (UInt8.toNat_inj.1 (by omega))
      refine Ev.step (fun k => by simp only [spec_l1Split.l0, if_pos q0, if_pos q1, if_neg p1, ei] <;> exact rfl) ?_
      rw [spW_miss c _ _ _ h]
      have hn := ih (i + 1) a out (by omega) (by omega) (by omega)
      have e : (s.data.toList.drop a).take (i - a) ++ [s[i]] = (s.data.toList.drop a).take (i + 1 - a) := by
        rw [show i + 1 - a = (i - a) + 1 by omega, List.take_succ_eq_append_getElem (by rw [List.length_drop, Array.length_toList]; show i - a < s.size - a; omega)]
        congr 1
        simp [show a + (i - a) = i by omega]
        rfl
      rw [e]
      exact hn
theorem l1Split_ev (s : ByteArray) (c : UInt8) (ci : Int) (hc : ((c.toNat : Nat) : Int) = ci) (hs : s.size ≤ 1048576) : Ev (fun k => spec_l1Split.f k s ci) (pieces c s) := by
  unfold spec_l1Split.f
  have := l1Split_l0 s c ci hc hs s.size 0 0 [] (Nat.le_refl _) (by omega) (Nat.le_refl _)
  simpa [spW_start, pieces] using this

theorem empty_iff (s : ByteArray) : s.toList = [] ↔ s.size = 0 := by rw [Lib.toList_data, bsize]; exact List.length_eq_zero_iff.symm
/-! calls out of a text -/
def pcC (p : ByteArray) : S41 := ⟨wrap64 ((wrap64 (bt p 0)) - 48), wrap64 ((wrap64 (bt p 1)) - 48)⟩
def okC (p : ByteArray) : Bool := p.size == 2 && isCallB 10 (pcC p).f0 (pcC p).f1
def parseP (s : ByteArray) : List S41 × Bool := if s.size = 0 then ([], true) else if (pieces 45 s).all okC = true ∧ (pieces 45 s).length ≤ 60 then ((pieces 45 s).map pcC, true) else ([], false)
theorem parseP_length (s : ByteArray) : (parseP s).1.length ≤ 60 := by
  unfold parseP
  split
  · exact Nat.zero_le _
  · split
    · rename_i h; rw [List.length_map]; exact h.2
    · exact Nat.zero_le _
theorem parse_at (xs : List ByteArray) (i : Nat) : rdOf ByteArray.empty xs (i : Int) = xs.getD i ByteArray.empty := rfl
theorem caParse_l0 (xs : List ByteArray) (hl : xs.length ≤ 2000000) : ∀ (d i : Nat), i + d = xs.length →
    Ev (fun k => spec_caParse.l0 k ((xs.take i).map pcC) xs (xs.length : Int) (i : Int)) (if (xs.drop i).all okC = true then (if xs.length > 60 then ([], false) else (xs.map pcC, true)) else ([], false)) := by
  intro d
  induction d with
  | zero =>
    intro i hi
    have hi' : ¬ (i : Int) < (xs.length : Int) := by omega
    rw [List.drop_eq_nil_of_le (by omega), List.all_nil, if_pos rfl, List.take_of_length_le (by omega)]
    by_cases hq : xs.length > 60
    · have hq' : ((xs.map pcC).length : Int) > 60 := by rw [List.length_map]; omega
      rw [if_pos hq]
      exact Ev.step (fun k => by simp only [spec_caParse.l0, if_neg hi', if_pos hq'] <;> exact rfl) (ev_now _)
    · have hq' : ¬ ((xs.map pcC).length : Int) > 60 := by rw [List.length_map]; omega
      rw [if_neg hq]
      exact Ev.step (fun k => by simp only [spec_caParse.l0, if_neg hi', if_neg hq'] <;> exact rfl) (ev_now _)
  | succ d ih =>
    intro i hi
    have hlt : i < xs.length := by omega
    have q1 : (i : Int) < (xs.length : Int) := by omega
    have q2 : (0 : Int) ≤ (i : Int) := by omega
    have ei := w64 (show -9223372036854775808 ≤ (i : Int) + 1 by omega) (by omega)
    have hn := ih (i + 1) (by omega)
    rw [drop_at xs i ByteArray.empty hlt, List.all_cons]
    rw [take_at xs i ByteArray.empty hlt, List.map_append] at hn
    generalize hp : xs.getD i ByteArray.empty = p at hn ⊢
    have er : rdOf ByteArray.empty xs (i : Int) = p := (parse_at xs i).trans hp
    by_cases h2 : p.size = 2
    · have p1 : (p.size : Int) = 2 := by omega
      have p2 : (0 : Int) < (p.size : Int) := by omega
      have p3 : (1 : Int) < (p.size : Int) := by omega
      have hc := caCall_f 10 (pcC p).f0 (pcC p).f1 (by decide) (by decide)
      have hc' : spec_caCall.f 10 (wrap64 ((wrap64 (bt p 0)) - 48)) (wrap64 ((wrap64 (bt p 1)) - 48)) = some (isCallB 10 (pcC p).f0 (pcC p).f1) := hc
      have q3 : ((xs.take i).map pcC).length < 8796093022208 := by rw [List.length_map, List.length_take]; omega
      cases hb : isCallB 10 (pcC p).f0 (pcC p).f1 with
      | true =>
        have ho : okC p = true := by simp [okC, h2, hb]
        rw [ho, Bool.true_and]
        rw [hb] at hc'
        refine Ev.step (fun k => by simp only [spec_caParse.l0, if_pos q1, if_pos q2, er, if_pos p1, if_pos p2, if_pos p3, hc', Option.bind_some, if_true, if_pos q3, ei] <;> exact rfl) ?_
        exact hn
      | false =>
        have ho : okC p = false := by simp [okC, hb]
        rw [ho, Bool.false_and]
        rw [hb] at hc'
        simp only [Bool.false_eq_true, if_false]
        exact Ev.step (fun k => by simp only [spec_caParse.l0, if_pos q1, if_pos q2, er, if_pos p1, if_pos p2, if_pos p3, hc', Option.bind_some, Bool.false_eq_true, if_false] <;> exact rfl) (ev_now _)
    · have p1 : ¬ (p.size : Int) = 2 := by omega
      have ho : okC p = false := by simp [okC, h2]
      rw [ho, Bool.false_and]
      simp only [Bool.false_eq_true, if_false]
      exact Ev.step (fun k => by simp only [spec_caParse.l0, if_pos q1, if_pos q2, er, if_neg p1] <;> exact rfl) (ev_now _)
theorem ParseCalls_l0 (xs : List ByteArray) (hl : xs.length ≤ 2000000) : ∀ (d i : Nat), i + d = xs.length →
    Ev (fun k => impl_ParseCalls.l0 k ((xs.take i).map pcC) xs (xs.length : Int) (i : Int)) (if (xs.drop i).all (fun p => p.size == 2) = true then (if areCallsB 10 (xs.map pcC) = true then (xs.map pcC, true) else ([], false)) else ([], false)) := by
  intro d
  induction d with
  | zero =>
    intro i hi
    have hi' : ¬ (i : Int) < (xs.length : Int) := by omega
    rw [List.drop_eq_nil_of_le (by omega), List.all_nil, if_pos rfl, List.take_of_length_le (by omega)]
    refine Ev.step (fun k => by simp only [impl_ParseCalls.l0, if_neg hi', impl_AreCalls.f, Option.bind_some] <;> exact rfl) ?_
    cases areCallsB 10 (xs.map pcC) with
    | true => exact ev_now _
    | false => exact ev_now _
  | succ d ih =>
    intro i hi
    have hlt : i < xs.length := by omega
    have q1 : (i : Int) < (xs.length : Int) := by omega
    have q2 : (0 : Int) ≤ (i : Int) := by omega
    have ei := w64 (show -9223372036854775808 ≤ (i : Int) + 1 by omega) (by omega)
    have hn := ih (i + 1) (by omega)
    rw [drop_at xs i ByteArray.empty hlt, List.all_cons]
    rw [take_at xs i ByteArray.empty hlt, List.map_append] at hn
    generalize hp : xs.getD i ByteArray.empty = p at hn ⊢
    have er : rdOf ByteArray.empty xs (i : Int) = p := (parse_at xs i).trans hp
    by_cases h2 : p.size = 2
    · have p1 : (p.size : Int) = 2 := by omega
      have p2 : (0 : Int) < (p.size : Int) := by omega
      have p3 : (1 : Int) < (p.size : Int) := by omega
      have q3 : ((xs.take i).map pcC).length < 8796093022208 := by rw [List.length_map, List.length_take]; omega
      have ho : (p.size == 2) = true := by simp [h2]
      rw [ho, Bool.true_and]
      refine Ev.step (fun k => by simp only [impl_ParseCalls.l0, if_pos q1, if_pos q2, er, if_pos p1, if_pos p2, if_pos p3, if_pos q3, ei] <;> exact rfl) ?_
      exact hn
    · have p1 : ¬ (p.size : Int) = 2 := by omega
      have ho : (p.size == 2) = false := by simp [h2]
      rw [ho, Bool.false_and]
      simp only [Bool.false_eq_true, if_false]
      exact Ev.step (fun k => by simp only [impl_ParseCalls.l0, if_pos q1, if_pos q2, er, if_neg p1] <;> exact rfl) (ev_now _)
theorem all_okC (xs : List ByteArray) : (xs.all okC = true ∧ xs.length ≤ 60) ↔ (xs.all (fun p => p.size == 2) = true ∧ areCallsB 10 (xs.map pcC) = true) := by
  have e : areCallsB 10 (xs.map pcC) = (decide (xs.length ≤ 60) && xs.all fun p => isCallB 10 (pcC p).f0 (pcC p).f1) := by
    simp [areCallsB, List.all_map, Function.comp_def]
  rw [e]
  simp only [okC, List.all_eq_true, Bool.and_eq_true, decide_eq_true_eq]
  exact ⟨fun ⟨h1, h2⟩ => ⟨fun p hp => (h1 p hp).1, h2, fun p hp => (h1 p hp).2⟩, fun ⟨h1, h2, h3⟩ => ⟨fun p hp => ⟨h1 p hp, h3 p hp⟩, h2⟩⟩
theorem pieces_le (c : UInt8) (s : ByteArray) (h : s.size ≤ 1048576) : (pieces c s).length ≤ 2000000 := by have := pieces_len c s; omega
theorem long_pieces (s : ByteArray) (h : s.size > 180) : ¬ ((pieces 45 s).all okC = true ∧ (pieces 45 s).length ≤ 60) := by
  rintro ⟨h1, h2⟩
  have h3 := pieces_len 45 s
  have h4 : ∀ xs : List ByteArray, xs.all okC = true → (xs.map ByteArray.size).sum = 2 * xs.length := by
    intro xs
    induction xs with
    | nil => intro _; rfl
    | cons x xs ih =>
      intro hx
      rw [List.all_cons, Bool.and_eq_true] at hx
      have h5 := ih hx.2
      have h6 : x.size = 2 := by have := hx.1; simp [okC] at this; exact this.1
      rw [List.map_cons, List.sum_cons, List.length_cons, h5, h6]
      omega
  have h5 := h4 _ h1
  omega
theorem caParse_ev (s : ByteArray) (h : s.size ≤ 1048576) : Ev (fun k => spec_caParse.f k s) (parseP s) := by
  unfold spec_caParse.f parseP
  by_cases h0 : s.size = 0
  · have h0' := (empty_iff s).2 h0
    simp only [if_pos h0, if_pos h0']
    exact ev_now _
  · have h0' : ¬ s.toList = [] := fun e => h0 ((empty_iff s).1 e)
    simp only [if_neg h0, if_neg h0']
    by_cases h1 : (s.size : Int) > 180
    · simp only [if_pos h1, if_neg (long_pieces s (by omega))]
      exact ev_now _
    · simp only [if_neg h1]
      refine Ev.bind (l1Split_ev s 45 45 rfl h) ?_
      have := caParse_l0 (pieces 45 s) (pieces_le 45 s h) _ 0 (Nat.zero_add _)
      rw [List.drop_zero] at this
      have e : (if (pieces 45 s).all okC = true ∧ (pieces 45 s).length ≤ 60 then ((pieces 45 s).map pcC, true) else ([], false)) = (if (pieces 45 s).all okC = true then (if (pieces 45 s).length > 60 then ([], false) else ((pieces 45 s).map pcC, true)) else ([], false)) := by
        by_cases ha : (pieces 45 s).all okC = true <;> by_cases hb : (pieces 45 s).length ≤ 60
        · rw [if_pos ⟨ha, hb⟩, if_pos ha, if_neg (by omega)]
        · rw [if_neg (fun h => hb h.2), if_pos ha, if_pos (by omega)]
        · rw [if_neg (fun h => ha h.1), if_neg ha]
        · rw [if_neg (fun h => ha h.1), if_neg ha]
      rw [e]
      exact this
theorem ParseCalls_ev (s : ByteArray) (h : s.size ≤ 1048576) : Ev (fun k => impl_ParseCalls.f k s) (parseP s) := by
  unfold impl_ParseCalls.f parseP
  simp only [Option.bind_some]
  by_cases h0 : s.size = 0
  · have h0' := (empty_iff s).2 h0
    simp only [if_pos h0, if_pos h0']
    exact ev_now _
  · have h0' : ¬ s.toList = [] := fun e => h0 ((empty_iff s).1 e)
    simp only [if_neg h0, if_neg h0', split_f 45 s h, Option.bind_some]
    have := ParseCalls_l0 (pieces 45 s) (pieces_le 45 s h) _ 0 (Nat.zero_add _)
    rw [List.drop_zero] at this
    have e : (if (pieces 45 s).all okC = true ∧ (pieces 45 s).length ≤ 60 then ((pieces 45 s).map pcC, true) else ([], false)) = (if (pieces 45 s).all (fun p => p.size == 2) = true then (if areCallsB 10 ((pieces 45 s).map pcC) = true then ((pieces 45 s).map pcC, true) else ([], false)) else ([], false)) := by
      have hi := all_okC (pieces 45 s)
      by_cases ha : (pieces 45 s).all (fun p => p.size == 2) = true <;> by_cases hb : areCallsB 10 ((pieces 45 s).map pcC) = true
      · rw [if_pos (hi.2 ⟨ha, hb⟩), if_pos ha, if_pos hb]
      · rw [if_neg (fun h => hb (hi.1 h).2), if_pos ha, if_neg hb]
      · rw [if_neg (fun h => ha (hi.1 h).1), if_neg ha]
      · rw [if_neg (fun h => ha (hi.1 h).1), if_neg ha]
    rw [e]
    exact this

def resP (s : ByteArray) : List S41 × Bool := parseP s
theorem resP_length (s : ByteArray) : (resP s).1.length ≤ 1048576 := by have := parseP_length s; show (parseP s).1.length ≤ _; omega
theorem spec_ev (s : ByteArray) (h : s.size ≤ 1048576) : Ev (fun k => spec_ParseCalls.f k s) (resP s) := by
  unfold spec_ParseCalls.f
  exact Ev.bind (caParse_ev s h) (ev_now _)
theorem impl_ev (s : ByteArray) (h : s.size ≤ 1048576) : Ev (fun k => impl_ParseCalls.f k s) (resP s) := ParseCalls_ev s h
theorem FnExactParseCalls : laws_FnExactParseCalls.Pure := by
  intro a0 w0
  apply Ev.rounds
  unfold laws_FnExactParseCalls.f
  by_cases h1 : (a0.size : Int) > 1048576
  · simp only [if_pos h1]
    exact ev_now _
  simp only [if_neg h1]
  have h2 : a0.size ≤ 1048576 := by omega
  refine Ev.bind (spec_ev a0 h2) ?_
  refine Ev.bind (impl_ev a0 h2) ?_
  have hr : (resP a0).1.length ≤ 1048576 := resP_length a0
  have hm2 : ¬ (1 + 2 * (((resP a0).1.length : Nat) : Int)) < 0 := by omega
  refine Ev.bind (eqCallS_ev _ hr) ?_
  simp only [bne_self_eq_false, Bool.false_eq_true, if_false, if_true]
  refine Ev.step (fun k => by simp only [laws_FnExactParseCalls.j0, Bool.false_eq_true, if_false] <;> exact rfl) ?_
  refine Ev.bind (markCallS_ev _ 1 hr (by omega) (by omega)) ?_
  refine Ev.bind (heldCallS_ev _ 1 hr (by omega) (by omega)) ?_
  simp only [if_neg hm2, if_true]
  refine Ev.bind (impl_ev a0 h2) ?_
  refine Ev.bind (eqCallS_ev _ hr) ?_
  simp only [bne_self_eq_false, Bool.false_eq_true, if_false, if_true]
  refine Ev.step (fun k => by simp only [laws_FnExactParseCalls.j1, Bool.false_eq_true, if_false] <;> exact rfl) ?_
  refine Ev.bind (heldCallS_ev _ 1 hr (by omega) (by omega)) ?_
  simp only [if_neg hm2, if_true]
  exact ev_now _

end Go.Proofs.YtnlmalicpckfbaaDoor.Pure
