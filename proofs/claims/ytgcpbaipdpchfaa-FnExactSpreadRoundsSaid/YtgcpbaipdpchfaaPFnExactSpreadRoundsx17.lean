-- Written by the session's mkprint.py over the kit's print.py (function texts marked OURS are the session's own).
import Derived.Test.YtgcpbaipdpchfaaPFnExactSpreadRoundsx0
import Derived.Test.YtgcpbaipdpchfaaHBase
import Derived.Test.YtgcpbaipdpchfaaHDelMem
import Derived.Test.YtgcpbaipdpchfaaHGoes
import Derived.Test.YtgcpbaipdpchfaaHMemo
import Derived.Test.YtgcpbaipdpchfaaPFnExactSpreadRoundsx15
import Derived.Test.YtgcpbaipdpchfaaPFnExactSpreadRoundsx16
import Derived.Test.YtgcpbaipdpchfaaWApart
import Derived.Test.YtgcpbaipdpchfaaWKept
import Derived.Test.YtgcpbaipdpchfaaWMore
import Derived.Test.YtgcpbaipdpchfaaWShare
namespace Go.Proofs.Ytgcpbaipdpchfaa.PFnExactSpreadRounds
open Go.RowKit Go.Proofs.YtgcpbaipdpchfaaW.PrintWords Go.Proofs.YtgcpbaipdpchfaaW.PrintLast Go.Proofs.YtgcpbaipdpchfaaW.PrintMore
attribute [local go_sem] max2_int min2_int max_two min_two max_three min_three max_four min_four   -- for this text's walks alone
set_option linter.unusedVariables false
set_option linter.unusedSimpArgs false

/-! ### impl_SpreadRounds: OURS: function 36 -/
instance : Inhabited S54 := ⟨z54⟩
def sameP (set : Int) (c : S54) : Bool := Go.bits .and .u16 (shr .u16 set c.f0) 1 == Go.bits .and .u16 (shr .u16 set c.f1) 1
def impl_spread_rounds.f (k : Nat) (set : Int) (ps : List S54) : Option (List (List S54)) := if (ps.all fun c => decide (0 ≤ c.f0) && decide (0 ≤ c.f1)) = true then (if ps.length < 1048576 then impl_matchings.f k (ps.filter fun c => !sameP set c) else none) else none
theorem impl_spread_rounds.mono : ∀ a0 a1 k, LeO (impl_spread_rounds.f k a0 a1) (impl_spread_rounds.f (k + 1) a0 a1) := fun a0 a1 k => LeO.ite (LeO.ite (impl_matchings.mono _ _) (LeO.refl _)) (LeO.refl _)
set_option maxHeartbeats 4000000 in
set_option maxRecDepth 100000 in
theorem impl_spread_rounds.calls (k : Nat) (n : Int) (A : Option Addr) (c : Nat) (ps : List S54) (g : Nat) (set : Int) (r : List (List S54)) (w : World) (hr : Kd.C k54 w A ps.length ps) (hc : ps.length ≤ c) (h : impl_spread_rounds.f k set ps = some r) :
    Calls Try.prog 94 #[.agg #[.int .i64 n, .slice A ps.length c, .map (some g)], .int .u16 set] w fun e w' => ∃ v0_ : Value, e = .returned v0_ ∧ Kd.S (Kd.slice 54 k54) 31 w' w.heap.size (fun _ => True) v0_ r ∧ Below w.heap.size w w' := by
  unfold impl_spread_rounds.f at h
  by_cases ha : (ps.all fun c => decide (0 ≤ c.f0) && decide (0 ≤ c.f1)) = true
  case neg => rw [if_neg ha] at h; cases h
  rw [if_pos ha] at h
  by_cases hl : ps.length < 1048576
  case neg => rw [if_neg hl] at h; cases h
  rw [if_pos hl] at h
  have hcl : impl_Call.f ps = some ps := by
    unfold impl_Call.f
    simp only [Option.bind_some, List.nil_append, List.length_nil]
    rw [if_pos (by omega)]
  obtain ⟨W1, hW1⟩ : ∃ W1, W1 = ((w.alloc (.cells #[.int .i64 n, .slice A ps.length c, .map (some g)] 84)).alloc (.cells #[.int .u16 set] 87)) := ⟨_, rfl⟩
  have hB1 : Below w.heap.size w W1 := by rw [hW1]; repeat (first | exact Below.refl _ _ | apply below_alloc)
  have hs1 : W1.heap.size = w.heap.size + 2 := by rw [hW1]; simp
  have hx1 : W1.cell? ⟨w.heap.size + 1, 0, none⟩ = some (.int .u16 set) := by
    rw [hW1]
    have := blk_new (w.alloc (.cells #[.int .i64 n, .slice A ps.length c, .map (some g)] 84)) (.cells #[.int .u16 set] 87)
    rw [World.size_alloc] at this
    exact (blk_cell this 0).trans rfl
  have eg := enters_of Try.func112 (by kernel_rfl) rfl
  have hpred : ∀ w0 : World, Below W1.heap.size W1 w0 → Go.Proofs.Ytgcpbaipdpchfaa.H.PredAbove 112 #[.pointer (some ⟨w.heap.size + 1, 0, none⟩)] S54.f0 S54.f1 (sameP set) ps w0.heap.size w0 := by
    intro w0 hb0 W x hx hb
    have hc0 := Go.Proofs.Ytgcpbaipdpchfaa.H.cell_b hb (Go.Proofs.Ytgcpbaipdpchfaa.H.cell_b hb0 hx1)
    have h1 := List.all_eq_true.1 ha x hx
    simp only [Bool.and_eq_true, decide_eq_true_eq] at h1
    have hf : impl_spread_roundsLit1.f x.f0 x.f1 set = some (sameP set x) := by
      unfold impl_spread_roundsLit1.f
      rw [if_pos h1.1, if_pos h1.2]
      rfl
    exact impl_spread_roundsLit1.calls x.f0 x.f1 set _ W hf (w.heap.size + 1) hc0
  have HP := Aside0.mk hpred
  have HR := Aside0.mk (Kd.C_below hr hB1)
  have HB := Aside0.mk hB1
  have HM := Aside0.mk h
  have HCC := Aside0.mk hc
  have hu := Try.underlying84
  clear ha hl h hr hc hB1 hs1 hx1 hpred
  have EG := Aside0.mk eg
  clear eg
  go_enter Try.func94, Try.ntmps94
  go_wp2_with fail
  rw [← hW1]
  refine (impl_Call.calls A c ps ps _ HR.out HCC.out hcl).mono ?_
  rintro e w1 ⟨v1, rfl, ho1, hb1⟩
  have HO1 := Aside0.mk ho1
  have HB1 := Aside0.mk hb1
  clear ho1 hb1
  go_wp2_with fail
  refine (Go.Proofs.Ytgcpbaipdpchfaa.H.deleteFunc_c (d := k54) (fa := S54.f0) (fb := S54.f1) rfl (fun _ _ _ h => k54_open h) (fun w b o x => k54_mkM w b o x) (sameP set) 112 _ EG.out v1 ps W1.heap.size (fun _ => True) W1 w1 HB1.out (Nat.le_refl _) HO1.out (HP.out W1 (Below.refl _ _))).mono ?_
  rintro e w2 ⟨v2, rfl, ho2, hb2⟩
  obtain ⟨A2, c2, rfl⟩ := Kd.R_slice ho2
  have HO2 := Aside0.mk ho2
  have HB2 := Aside0.mk hb2
  clear ho2 hb2
  go_wp2_with fail
  refine (impl_matchings.calls k A2 c2 _ r w2 (Kd.R_reads' HO2.out).2.2 (Kd.R_reads' HO2.out).2.1 HM.out).mono ?_
  rintro e w3 ⟨v3, rfl, ho3, hb3⟩
  have HO3 := Aside0.mk ho3
  have HB3 := Aside0.mk hb3
  clear ho3 hb3
  go_wp2
  go_ret
  have b2 := below_step HB.out HB2.out
  exact ⟨_, rfl, Kd.S_lower HO3.out (below_size b2), below_step b2 HB3.out⟩
def impl_spread_full (n : Int) : Int := IntKind.u16.wrap (shl .u16 1 n - 1)
def impl_spread_next (v best : Int) : Int := if 0 ≤ v then (if best < 0 then wrap64 (v + 1) else if wrap64 (v + 1) < best then wrap64 (v + 1) else best) else best
mutual
def impl_spread_left.l : Nat → Int → List S54 → Int → List (List S54) → Int → List (Int × Int) → Option (Int × List (Int × Int))
  | 0, _, _, _, _, _, _ => none
  | _ + 1, _, _, _, [], best, memo => some (best, memo)
  | k + 1, n, ps, set, r :: rs, best, memo => (impl_behind.f k set r).bind fun s2 => (impl_spread_left.f k n ps s2 memo).bind fun p => impl_spread_left.l k n ps set rs (impl_spread_next p.1 best) p.2
def impl_spread_left.f : Nat → Int → List S54 → Int → List (Int × Int) → Option (Int × List (Int × Int))
  | 0, _, _, _, _ => none
  | k + 1, n, ps, set, memo => if 0 ≤ n ∧ n ≤ 8 ∧ 0 ≤ set ∧ set < 65536 then (if set = impl_spread_full n then some (0, memo) else if (Go.Proofs.Ytgcpbaipdpchfaa.H.look memo set).isSome = true then some ((Go.Proofs.Ytgcpbaipdpchfaa.H.look memo set).getD 0, memo) else (impl_spread_rounds.f k set ps).bind fun rs => if 1 ≤ rs.length ∧ rs.length < 1048576 then (impl_spread_left.l k n ps set (rs.drop 1) (-1) memo).bind fun q => if -9223372036854775808 ≤ q.1 ∧ q.1 < 9223372036854775808 ∧ q.2.length < 1000000 then some (q.1, (set, q.1) :: q.2) else none else none) else none
end
theorem impl_spread_left.mono_l : ∀ k, (∀ n ps set rs best memo, LeO (impl_spread_left.l k n ps set rs best memo) (impl_spread_left.l (k + 1) n ps set rs best memo)) ∧ (∀ n ps set memo, LeO (impl_spread_left.f k n ps set memo) (impl_spread_left.f (k + 1) n ps set memo))
  | 0 => ⟨fun _ _ _ _ _ _ r h => by simp [impl_spread_left.l] at h, fun _ _ _ _ r h => by simp [impl_spread_left.f] at h⟩
  | k + 1 => by
    obtain ⟨ih0, ih1⟩ := impl_spread_left.mono_l k
    refine ⟨fun n ps set rs best memo => ?_, fun n ps set memo => ?_⟩
    · cases rs with
      | nil => simp only [impl_spread_left.l]; exact LeO.refl _
      | cons r rs =>
        rw [impl_spread_left.l, impl_spread_left.l]
        exact LeO.bind (impl_behind.mono _ _ _) (fun _ => LeO.bind (ih1 _ _ _ _) (fun _ => ih0 _ _ _ _ _ _))
    · rw [impl_spread_left.f, impl_spread_left.f]
      exact LeO.ite (LeO.ite (LeO.refl _) (LeO.ite (LeO.refl _) (LeO.bind (impl_spread_rounds.mono _ _ _) (fun _ => LeO.ite (LeO.bind (ih0 _ _ _ _ _ _) (fun _ => LeO.refl _)) (LeO.refl _))))) (LeO.refl _)
theorem impl_spread_left.mono : ∀ n ps set memo k, LeO (impl_spread_left.f k n ps set memo) (impl_spread_left.f (k + 1) n ps set memo) := fun n ps set memo k => (impl_spread_left.mono_l k).2 n ps set memo
set_option maxHeartbeats 16000000 in
set_option maxRecDepth 100000 in
theorem impl_spread_left.calls (K : Nat) : ∀ (n : Int) (A : Option Addr) (c : Nat) (ps : List S54) (g : Nat) (set : Int) (memo memo' : List (Int × Int)) (v : Int) (w : World), ps.length ≤ c → Kd.F k54 w (fun b => b ≠ g) A ps.length ps → Go.Proofs.Ytgcpbaipdpchfaa.H.MemoAt w g memo → impl_spread_left.f K n ps set memo = some (v, memo') →
    Calls Try.prog 70 #[.agg #[.int .i64 n, .slice A ps.length c, .map (some g)], .int .u16 set] w fun e w' => e = .returned (.int .i64 v) ∧ Go.Proofs.Ytgcpbaipdpchfaa.H.MemoAt w' g memo' ∧ Go.Proofs.Ytgcpbaipdpchfaa.H.Fr g (.slice none 0 0) w w' := by
  induction K using Nat.strongRecOn with
  | _ K ih =>
  intro n A c ps g set memo memo' v w hc hF hM h
  cases K with
  | zero => simp [impl_spread_left.f] at h
  | succ K =>
    rw [impl_spread_left.f] at h
    by_cases hq : 0 ≤ n ∧ n ≤ 8 ∧ 0 ≤ set ∧ set < 65536
    case neg => rw [if_neg hq] at h; cases h
    rw [if_pos hq] at h
    have hu := Try.underlying84
    have HWF := Aside0.mk (Go.Proofs.Ytgcpbaipdpchfaa.H.wf16 hq.2.2.1 hq.2.2.2)
    have n0 : (0 ≤ n) = True := eq_true hq.1
    have n1 : decide (0 ≤ n) = true := decide_eq_true hq.1
    obtain ⟨j1, hj1⟩ : ∃ j_ : Int, shl .u16 1 n = j_ := ⟨_, rfl⟩
    have hj_ : (IntKind.u16.wrap (1 * 2 ^ min n.toNat 16)) = j1 := hj1
    have hjz : (IntKind.u16.wrap (1 * 2 ^ n.toNat)) = j1 := shl_small hj1 (by show n ≤ 16; omega)
    have hju : (IntKind.u16.wrap (2 ^ min n.toNat 16)) = j1 := by have h_ := hj_; rw [Int.one_mul] at h_; exact h_
    have hjv : (IntKind.u16.wrap (2 ^ n.toNat)) = j1 := by have h_ := hjz; rw [Int.one_mul] at h_; exact h_
    unfold impl_spread_full at h
    rw [hj1] at h
    have HC := Aside0.mk hc
    have HF := Aside0.mk hF
    have HM := Aside0.mk hM
    obtain ⟨W1, hW1⟩ : ∃ W1, W1 = (w.alloc (.cells #[.int .i64 n, .slice A ps.length c, .map (some g)] 84)) := ⟨_, rfl⟩
    have HB1 : Aside0 (Below w.heap.size w W1) := ⟨by rw [hW1]; exact below_alloc (Below.refl _ _) _⟩
    have HK1 : Aside0 (W1.heap[w.heap.size]? = some (.cells #[.int .i64 n, .slice A ps.length c, .map (some g)] 84 (0, 0))) := ⟨by rw [hW1]; exact blk_new _ _⟩
    have HGW : Aside0 (w.heap.size ≠ g) := ⟨by have := hM.lt; omega⟩
    clear hc hF hM hq hj1
    by_cases hf : set = IntKind.u16.wrap (j1 - 1)
    · rw [if_pos hf] at h
      have d0 : (set == IntKind.u16.wrap (j1 - 1)) = true := beq_iff_eq.mpr hf
      simp only [Option.some.injEq, Prod.mk.injEq] at h
      obtain ⟨rfl, rfl⟩ := h
      clear hf hW1
      go_enter Try.func70, Try.ntmps70
      go_wp2
      go_ret
      exact ⟨rfl, HM.out.below (below_alloc (Below.refl _ _) _), Go.Proofs.Ytgcpbaipdpchfaa.H.Fr.of_below (below_alloc (Below.refl _ _) _)⟩
    · rw [if_neg hf] at h
      have d0 : (set == IntKind.u16.wrap (j1 - 1)) = false := beq_eq_false_iff_ne.mpr hf
      clear hf
      have HM1 : Aside0 (Go.Proofs.Ytgcpbaipdpchfaa.H.MemoAt W1 g memo) := ⟨HM.out.below HB1.out⟩
      have HMA : Aside0 (Go.Proofs.Ytgcpbaipdpchfaa.H.MemoAt (w.alloc (.cells #[.int .i64 n, .slice A ps.length c, .map (some g)] 84)) g memo) := ⟨by rw [← hW1]; exact HM1.out⟩
      by_cases hl : (Go.Proofs.Ytgcpbaipdpchfaa.H.look memo set).isSome = true
      · rw [if_pos hl] at h
        have hh : Go.Maps.has (Go.Proofs.Ytgcpbaipdpchfaa.H.datum memo) (.int .u16 set) = true := (Go.Proofs.Ytgcpbaipdpchfaa.H.look_has set memo).trans hl
        have hh := Aside0.mk hh
        have HAT := Aside0.mk (Go.Proofs.Ytgcpbaipdpchfaa.H.look_at set memo)
        simp only [Option.some.injEq, Prod.mk.injEq] at h
        obtain ⟨rfl, rfl⟩ := h
        clear hl
        go_enter Try.func70, Try.ntmps70
        go_wp2_with (at_lookup; go_loud (refine wpList_lookup_own_ok_int _ rfl _ _ 82 rfl 87 3 .i64 Go.Proofs.Ytgcpbaipdpchfaa.H.klaw Try.underlying82 Try.underlying3 (Go.Proofs.Ytgcpbaipdpchfaa.H.zeroI _) g memo.length _ rfl HMA.out _ _ rfl (Go.Maps.keyOf_int_mk Try.underlying87 HWF.out) ?_; intro cv hat hwc; rw [hh.out]))
        have hcv : cv = (Go.Proofs.Ytgcpbaipdpchfaa.H.look memo set).getD 0 := by
          have h9 := HAT.out.symm.trans hat
          injection h9 with h9
          injection h9 with _ h9
          exact h9.symm
        subst hcv
        go_ret
        exact ⟨rfl, HMA.out, Go.Proofs.Ytgcpbaipdpchfaa.H.Fr.of_below (below_alloc (Below.refl _ _) _)⟩
      · rw [if_neg hl] at h
        have hh : Go.Maps.has (Go.Proofs.Ytgcpbaipdpchfaa.H.datum memo) (.int .u16 set) = false := (Go.Proofs.Ytgcpbaipdpchfaa.H.look_has set memo).trans (by simpa using hl)
        have hh := Aside0.mk hh
        obtain ⟨rs, hrs, h2⟩ := Option.bind_eq_some_iff.1 h
        by_cases hrl : 1 ≤ rs.length ∧ rs.length < 1048576
        case neg => rw [if_neg hrl] at h2; cases h2
        rw [if_pos hrl] at h2
        obtain ⟨q, hq, h3⟩ := Option.bind_eq_some_iff.1 h2
        by_cases hqb : -9223372036854775808 ≤ q.1 ∧ q.1 < 9223372036854775808 ∧ q.2.length < 1000000
        case neg => rw [if_neg hqb] at h3; cases h3
        rw [if_pos hqb] at h3
        simp only [Option.some.injEq, Prod.mk.injEq] at h3
        obtain ⟨rfl, rfl⟩ := h3
        have HRS := Aside0.mk hrs
        have HRL := Aside0.mk hrl
        obtain ⟨rd, hrd⟩ : ∃ x_ : List (List S54), x_ = rs.drop 1 := ⟨_, rfl⟩
        rw [← hrd] at hq
        have HQ := Aside0.mk hq
        have HRD0 := Aside0.mk hrd
        clear hrd
        have HQB := Aside0.mk hqb
        have HQW := Aside0.mk (Go.Proofs.Ytgcpbaipdpchfaa.H.wf64 hqb.1 hqb.2.1)
        have HF1 : Aside0 (Kd.F k54 W1 (fun b => b ≠ g) A ps.length ps) := ⟨Kd.F_below HF.out HB1.out⟩
        clear h h2 hrs hrl hq hqb hl
        have hmm := @run_makeMap Try.prog
        go_enter Try.func70, Try.ntmps70
        go_wp2_with (at_lookup; refine wpList_lookup_own_ok_int _ rfl _ _ 82 rfl 87 3 .i64 Go.Proofs.Ytgcpbaipdpchfaa.H.klaw Try.underlying82 Try.underlying3 (Go.Proofs.Ytgcpbaipdpchfaa.H.zeroI _) g memo.length _ rfl HMA.out _ _ rfl (Go.Maps.keyOf_int_mk Try.underlying87 HWF.out) ?_; intro cv hat hwc; rw [hh.out])
        rw [← hW1]
        refine (impl_spread_rounds.calls K n A c ps g set rs W1 (Kd.F_now HF1.out) HC.out HRS.out).mono ?_
        rintro e w2 ⟨v0, rfl, ho, hb2⟩
        obtain ⟨go, co, rfl, gob, gol, clo, hgo⟩ := Kd.S_form ho (by have := HRL.out; omega)
        obtain ⟨i31, hi31, _, hsz31, _⟩ := info_parts info31
        have hcut := cut_from (P := Try.prog) 22 31 .i64 Try.underlying22 hi31 1 hsz31 (some ⟨go, 0, none⟩) rs.length co 1 (by omega) (by have := HRL.out; omega)
        rw [show ((1 : Int)).toNat = 1 from rfl] at hcut
        have hRF : Kd.F (Kd.slice 54 k54) w2 (fun k => k ≠ g) (some ⟨go, 0, none⟩) rs.length rs := Kd.F_mono (Kd.S_F (Kd.S_bound ho)) (fun k hk => by have h9 := hk.2.1; have h8 := HM1.out.lt; omega)
        have hRC := Kd.F_cut (m := 1) hRF (by have := HRL.out; omega) (Kd.S_reads' ho).2.1
        obtain ⟨AA, hAA⟩ : ∃ AA, AA = (if co = 1 then some ⟨go, 0, none⟩ else (some (⟨go, 0, none⟩ : Addr)).map (·.add (1 * 1))) := ⟨_, rfl⟩
        have hRC2 : Kd.F (Kd.slice 54 k54) w2 (fun k => k ≠ g) AA rd.length rd := by rw [HRD0.out, hAA]; exact hRC
        rw [← hAA] at hcut
        have hlen : rs.length - 1 = rd.length := by rw [HRD0.out, List.length_drop]
        rw [hlen] at hcut
        have HLS0 : Aside0 (Go.Proofs.Ytgcpbaipdpchfaa.H.LSt k54 54 84 #[.int .i64 n, .slice A ps.length c, .map (some g)] A ps AA rd g w.heap.size w w2 memo) := ⟨⟨HM1.out.below hb2, Kd.F_below HF1.out hb2, hRC2, blk_below HK1.out hb2, HGW.out, Go.Proofs.Ytgcpbaipdpchfaa.H.Fr.of_below (below_step HB1.out hb2)⟩⟩
        have HN0 : Aside0 (rd.length < 1048576) := ⟨by have := HRL.out; rw [← hlen]; omega⟩
        clear hAA hRF hRC hRC2 hlen ho gob gol hgo hb2 hat hwc HMA HK1 HM1 HF1 HF HM HB1 hW1 hi31 hsz31
        have hz0 := (blk_cell HLS0.out.hK 0).trans rfl
        go_wp2
        go_loopg [7, 31] rd.length (fun kq v7 v31 w' => ∃ (best : Int) (memo2 : List (Int × Int)) (x31 : Int) (kk : Nat), v7 = .int .i64 best ∧ v31 = .int .i64 x31 ∧ Aside0 (impl_spread_left.l kk n ps set (rd.drop x31.toNat) best memo2 = some q) ∧ Aside0 (kk ≤ K) ∧ Aside0 (0 ≤ x31 ∧ x31 + (kq : Int) = (rd.length : Int)) ∧ Aside0 (Go.Proofs.Ytgcpbaipdpchfaa.H.LSt k54 54 84 #[.int .i64 n, .slice A ps.length c, .map (some g)] A ps AA rd g w.heap.size w w' memo2))
        case atStart => exact ⟨-1, memo, 0, K, rfl, rfl, HQ, ⟨Nat.le_refl _⟩, ⟨by omega⟩, HLS0⟩
        case round =>
          clear HLS0 hz0 hcut HQ
          obtain ⟨best, memo2, x31, kk0, rfl, rfl, HL2, HK2, IX, HLS⟩ := hrel
          by_cases c14 : x31 < (rd.length : Int)
          · have c14b0 : decide (x31 < (rd.length : Int)) = true := decide_eq_true c14
            have CX := Aside0.mk c14
            have EX : Aside0 (wrap64 (x31 + 1) = x31 + 1) := ⟨by have := HN0.out; have := IX.out.1; unfold wrap64; omega⟩
            have p0 := eq_true IX.out.1
            have p1 := eq_true c14
            obtain ⟨row, hrow⟩ : ∃ x_ : List S54, x_ = rd.getD x31.toNat [] := ⟨_, rfl⟩
            have hd : rd.drop x31.toNat = row :: rd.drop (x31.toNat + 1) := by
              have hlt : x31.toNat < rd.length := by have := IX.out.1; omega
              rw [List.drop_eq_getElem_cons hlt, hrow, List.getD_eq_getElem?_getD, List.getElem?_eq_getElem hlt]
              rfl
            have h5 := HL2.out
            rw [hd] at h5
            cases kk0 with
            | zero => simp [impl_spread_left.l] at h5
            | succ kk =>
            rw [impl_spread_left.l] at h5
            obtain ⟨s2, hs2, h6⟩ := Option.bind_eq_some_iff.1 h5
            obtain ⟨p, hp2, h7⟩ := Option.bind_eq_some_iff.1 h6
            have HS2 := Aside0.mk hs2
            have HP2 := Aside0.mk hp2
            clear HL2
            have HL2 := Aside0.mk h7
            have HKK : Aside0 (kk < K + 1 ∧ kk ≤ K) := ⟨by have := HK2.out; omega⟩
            obtain ⟨ad, cs, rfl, hcl, hFK, hcc, _⟩ := Kd.F_get HLS.out.hR [] x31 IX.out.1 c14
            rw [← hrow] at hFK
            obtain ⟨Ar, cr, rfl, hcr, hFr⟩ := Kd.FK_slice_open hFK
            have hcell := hcc 0 _ rfl
            rw [Nat.add_zero, show ((Kd.slice 54 k54)).sz = 1 from rfl, Nat.mul_one] at hcell
            have HRow := Aside0.mk hFr
            have HCr := Aside0.mk hcr
            clear hcc hFK hcl hFr hcr h5 h6 h7 hs2 hp2 hd hrow c14 HK2
            go_wp2
            have HLD := Aside0.mk (HLS.out.below (below_drew1 (Below.refl _ _)))
            have HRD := Aside0.mk (Kd.F_drew HRow.out)
            refine start_ (n := 6) (S := fun w' => w'.cell? ⟨w.heap.size, 0, none⟩ = some (.int .i64 n) ∧ w'.cell? ⟨w.heap.size, 1, none⟩ = some (.slice A ps.length c) ∧ w'.cell? ⟨w.heap.size, 2, none⟩ = some (.map (some g))) (ds := []) #[false, false, false, false, false, false] (by kernel_rfl) rfl rfl ⟨(blk_cell HLD.out.hK 0).trans rfl, (blk_cell HLD.out.hK 1).trans rfl, (blk_cell HLD.out.hK 2).trans rfl⟩ (fun hHeld => ?_)
            clear HLS HRow
            have HLS := HLD
            have HRow := HRD
            clear HLD HRD
            refine take_ (i := 0) (N := some 35) (v := ?_) (a' := ?_) #[true, false, false, false, false, false] rfl rfl (by kernel_rfl) (fun _ _ _ h => h) (Or.inl ⟨by rfl, ?_⟩) hHeld ?_ ?_
            (rotate_left; rintro w' ⟨s0, s1, s2⟩; go_simp; with_reducible rfl; rotate_left; simp only [Act.put, List.setIfInBounds_toArray, List.set_cons_zero, List.set_cons_succ, i64_w, i32_w]; rfl)
            refine pure_ (i := 1) (N := some 36) (v := ?_) (a' := ?_) #[true, true, false, false, false, false] rfl rfl (by kernel_rfl) (fun _ _ _ h => h) (Or.inl ⟨by rfl, ?_⟩) ?_ ?_
            (rotate_left; intro w'; go_simp; with_reducible rfl; rotate_left; simp only [Act.put, List.setIfInBounds_toArray, List.set_cons_zero, List.set_cons_succ, i64_w, i32_w]; rfl)
            refine pure_ (i := 2) (N := some 37) (v := ?_) (a' := ?_) #[true, true, true, false, false, false] rfl rfl (by kernel_rfl) (fun _ _ _ h => h) (Or.inl ⟨by rfl, ?_⟩) ?_ ?_
            (rotate_left; intro w'; go_simp; with_reducible rfl; rotate_left; simp only [Act.put, List.setIfInBounds_toArray, List.set_cons_zero, List.set_cons_succ, i64_w, i32_w]; rfl)
            refine one_ (i := 3) (N := some 38) #[true, true, true, true, false, false] rfl rfl (by kernel_rfl) (by decide) (fun K hK => ?_)
            refine goes_ Try.func95 (by kernel_rfl) rfl #[.int .u16 set, .slice Ar row.length cr] (by rfl) rfl rfl (by (try simp only [List.map_toArray, List.map_cons, List.map_nil]); first | done | rfl) ?_
            refine (impl_behind.calls kk set Ar cr row s2 _ (Kd.F_now HRow.out) HCr.out HS2.out).mono ?_
            rintro e w4 ⟨rfl, hb4⟩
            refine ⟨_, rfl, ?_⟩
            have HL4 := Aside0.mk (HLS.out.below hb4)
            clear HLS HRow hHeld
            refine hK.out _ _ ⟨(blk_cell HL4.out.hK 0).trans rfl, (blk_cell HL4.out.hK 1).trans rfl, (blk_cell HL4.out.hK 2).trans rfl⟩ (fun hHeld => ?_)
            clear hK K hb4
            refine norm_ (a' := ?_) ?_ ?_
            rotate_left
            · show Act.put _ (some 38) _ = _
              simp only [Act.put, List.setIfInBounds_toArray, List.set_cons_zero, List.set_cons_succ, i64_w, i32_w]
              rfl
            refine one_ (i := 4) (N := some 39) #[true, true, true, true, true, false] rfl rfl (by kernel_rfl) (by decide) (fun K hK => ?_)
            refine goes_ Try.func70 (by kernel_rfl) rfl #[.agg #[.int .i64 n, .slice A ps.length c, .map (some g)], .int .u16 s2] (by rfl) rfl rfl (by (try simp only [List.map_toArray, List.map_cons, List.map_nil]); first | done | rfl) ?_
            refine (ih kk (by have := HKK.out; omega) n A c ps g s2 memo2 p.2 p.1 _ HC.out HL4.out.hP HL4.out.hM HP2.out).mono ?_
            rintro e w5 ⟨rfl, hm5, hf5⟩
            refine ⟨_, rfl, ?_⟩
            have HL5 := Aside0.mk (HL4.out.fr hm5 hf5)
            clear HL4 hm5 hf5 hHeld
            refine hK.out _ _ ⟨(blk_cell HL5.out.hK 0).trans rfl, (blk_cell HL5.out.hK 1).trans rfl, (blk_cell HL5.out.hK 2).trans rfl⟩ (fun hHeld => ?_)
            clear hK K
            refine norm_ (a' := ?_) ?_ ?_
            rotate_left
            · show Act.put _ (some 39) _ = _
              simp only [Act.put, List.setIfInBounds_toArray, List.set_cons_zero, List.set_cons_succ, i64_w, i32_w]
              rfl
            refine pure_ (i := 5) (N := some 10) (v := ?_) (a' := ?_) #[true, true, true, true, true, true] rfl rfl (by kernel_rfl) (fun _ _ _ h => h) (Or.inl ⟨by rfl, ?_⟩) ?_ ?_
            (rotate_left; intro w'; go_simp; with_reducible rfl; rotate_left; simp only [Act.put, List.setIfInBounds_toArray, List.set_cons_zero, List.set_cons_succ, i64_w, i32_w]; rfl)
            refine done_ (by kernel_rfl) ?_
            clear hHeld
            by_cases q1 : 0 ≤ p.1
            · have d1 : decide (0 ≤ p.1) = true := decide_eq_true q1
              by_cases q2 : best < 0
              · have d2 : decide (best < 0) = true := decide_eq_true q2
                have HN : Aside0 (impl_spread_left.l kk n ps set (rd.drop (wrap64 (x31 + 1)).toNat) (wrap64 (p.1 + 1)) p.2 = some q) := ⟨by have h_ := HL2.out; rw [show impl_spread_next p.1 best = wrap64 (p.1 + 1) from by unfold impl_spread_next; rw [if_pos q1, if_pos q2]] at h_; rw [EX.out, show (x31 + 1).toNat = x31.toNat + 1 by have := IX.out; omega]; exact h_⟩
                clear HL2
                go_wp2
                go_roundg (gk - 1)
                case measure => have := IX.out; have := CX.out; omega
                case rel => exact ⟨_, _, _, _, rfl, rfl, HN, ⟨by have := HKK.out; omega⟩, ⟨by rw [EX.out]; have := IX.out; have := CX.out; omega⟩, HL5⟩
              · have d2 : decide (best < 0) = false := decide_eq_false q2
                by_cases q3 : wrap64 (p.1 + 1) < best
                · have d3 : decide (wrap64 (p.1 + 1) < best) = true := decide_eq_true q3
                  have HN : Aside0 (impl_spread_left.l kk n ps set (rd.drop (wrap64 (x31 + 1)).toNat) (wrap64 (p.1 + 1)) p.2 = some q) := ⟨by have h_ := HL2.out; rw [show impl_spread_next p.1 best = wrap64 (p.1 + 1) from by unfold impl_spread_next; rw [if_pos q1, if_neg q2, if_pos q3]] at h_; rw [EX.out, show (x31 + 1).toNat = x31.toNat + 1 by have := IX.out; omega]; exact h_⟩
                  clear HL2
                  go_wp2
                  go_roundg (gk - 1)
                  case measure => have := IX.out; have := CX.out; omega
                  case rel => exact ⟨_, _, _, _, rfl, rfl, HN, ⟨by have := HKK.out; omega⟩, ⟨by rw [EX.out]; have := IX.out; have := CX.out; omega⟩, HL5⟩
                · have d3 : decide (wrap64 (p.1 + 1) < best) = false := decide_eq_false q3
                  have HN : Aside0 (impl_spread_left.l kk n ps set (rd.drop (wrap64 (x31 + 1)).toNat) (best) p.2 = some q) := ⟨by have h_ := HL2.out; rw [show impl_spread_next p.1 best = best from by unfold impl_spread_next; rw [if_pos q1, if_neg q2, if_neg q3]] at h_; rw [EX.out, show (x31 + 1).toNat = x31.toNat + 1 by have := IX.out; omega]; exact h_⟩
                  clear HL2
                  go_wp2
                  go_roundg (gk - 1)
                  case measure => have := IX.out; have := CX.out; omega
                  case rel => exact ⟨_, _, _, _, rfl, rfl, HN, ⟨by have := HKK.out; omega⟩, ⟨by rw [EX.out]; have := IX.out; have := CX.out; omega⟩, HL5⟩
            · have d1 : decide (0 ≤ p.1) = false := decide_eq_false q1
              have HN : Aside0 (impl_spread_left.l kk n ps set (rd.drop (wrap64 (x31 + 1)).toNat) (best) p.2 = some q) := ⟨by have h_ := HL2.out; rw [show impl_spread_next p.1 best = best from by unfold impl_spread_next; rw [if_neg q1]] at h_; rw [EX.out, show (x31 + 1).toNat = x31.toNat + 1 by have := IX.out; omega]; exact h_⟩
              clear HL2
              go_wp2
              go_roundg (gk - 1)
              case measure => have := IX.out; have := CX.out; omega
              case rel => exact ⟨_, _, _, _, rfl, rfl, HN, ⟨by have := HKK.out; omega⟩, ⟨by rw [EX.out]; have := IX.out; have := CX.out; omega⟩, HL5⟩
          · have c14b0 : decide (x31 < (rd.length : Int)) = false := decide_eq_false c14
            have hq2 : q = (best, memo2) := by
              have h5 := HL2.out
              rw [List.drop_eq_nil_of_le (by have := IX.out.1; omega)] at h5
              cases kk0 with
              | zero => simp [impl_spread_left.l] at h5
              | succ kk => rw [impl_spread_left.l] at h5; exact (Option.some.inj h5).symm
            subst hq2
            have LMM : Aside0 (memo2.length < 1000000) := ⟨HQB.out.2.2⟩
            have LWW : Aside0 ((Lit.int .i64 best).wf = true) := ⟨HQW.out⟩
            have hz2 : wr.cell? ⟨w.heap.size, 2, none⟩ = some (.map (some g)) := (blk_cell HLS.out.hK 2).trans rfl
            clear HL2 c14
            go_wp2_with (at_mapUpdate; go_loud (refine wpList_mapUpdate_own _ rfl _ _ _ 82 rfl 87 3 Go.Proofs.Ytgcpbaipdpchfaa.H.klaw Try.underlying82 _ g memo2.length _ rfl HLS.out.hM (by have := LMM.out; unfold maxLen; omega) _ _ _ rfl rfl (Go.Maps.keyOf_int_mk Try.underlying87 HWF.out) _ [] (plainElem_int Try.underlying3 LWW.out) ?_; intro w6 hown hgrow))
            go_ret
            exact ⟨rfl, hown, HLS.out.hF.trans (.inl rfl) (Go.Proofs.Ytgcpbaipdpchfaa.H.Fr.of_grown hgrow)⟩
def impl_SpreadRounds.f (k : Nat) (a0 : Int) (l1 : List S54) (a2 : Int) : Option (Int × Bool) := (impl_isSpread.f k a0 l1).bind fun t => if t = true then ((impl_isFriend.f a0 a2).bind fun q => if q = true then (if 0 ≤ a2 ∧ a2 ≤ 16 then ((impl_spread_left.f k a0 l1 (shl .u16 1 a2) []).bind fun p => some (mx p.1 0, decide (0 ≤ p.1))) else none) else some (0, false)) else some (0, false)
theorem impl_SpreadRounds.mono : ∀ a0 a1 a2 k, LeO (impl_SpreadRounds.f k a0 a1 a2) (impl_SpreadRounds.f (k + 1) a0 a1 a2) := fun a0 a1 a2 k => LeO.bind (impl_isSpread.mono _ _ _) (fun _ => LeO.ite (LeO.bind (LeO.refl _) (fun _ => LeO.ite (LeO.ite (LeO.bind (impl_spread_left.mono _ _ _ _ _) (fun _ => LeO.refl _)) (LeO.refl _)) (LeO.refl _))) (LeO.refl _))
set_option maxHeartbeats 8000000 in
set_option maxRecDepth 100000 in
theorem impl_SpreadRounds.calls (k : Nat) (a0 : Int) (A1 : Option Addr) (c1 : Nat) (l1 : List S54) (a2 : Int) (r1 : Int) (r2 : Bool) (w : World) (hr1 : Kd.C k54 w A1 l1.length l1) (hc1 : l1.length ≤ c1) (h : impl_SpreadRounds.f k a0 l1 a2 = some (r1, r2)) :
    Calls Try.prog 36 #[.int .i64 a0, .slice A1 l1.length c1, .int .i64 a2] w fun e w' => e = .returned (.tuple #[.int .i64 r1, .bool r2]) ∧ Below w.heap.size w w' := by
  obtain ⟨t, ht, h'⟩ := Option.bind_eq_some_iff.1 h
  clear h
  have hA := fun W2 hx => impl_isSpread.calls k a0 A1 c1 l1 t W2 hx hc1 ht
  have HC := Aside0.mk hc1
  have HR := Aside0.mk hr1
  have HF := Aside0.mk (Kd.C_F (Kd.heap_iso _ (Kd.heap_pair (Kd.heap_int _) (Kd.heap_int _))) hr1)
  clear ht hr1 hc1
  cases t with
  | false =>
    simp only [Bool.false_eq_true, if_false, Option.some.injEq, Prod.mk.injEq] at h'
    obtain ⟨rfl, rfl⟩ := h'
    go_enter Try.func36, Try.ntmps36
    go_wp2_with (go_at_call 67; refine (hA _ HR.out).mono ?_; rintro e w1 ⟨rfl, hb⟩)
    go_ret2
    exact ⟨rfl, hb⟩
  | true =>
    simp only [if_true] at h'
    obtain ⟨q, hq, h2⟩ := Option.bind_eq_some_iff.1 h'
    clear h'
    have hI := fun W2 => impl_isFriend.calls a0 a2 q W2 hq
    clear hq
    cases q with
    | false =>
      simp only [Bool.false_eq_true, if_false, Option.some.injEq, Prod.mk.injEq] at h2
      obtain ⟨rfl, rfl⟩ := h2
      go_enter Try.func36, Try.ntmps36
      go_wp2_with (first | (go_at_call 67; refine (hA _ HR.out).mono ?_; rintro e w1 ⟨rfl, hb⟩) | (go_at_call 68; refine (hI _).mono ?_; rintro e w2 ⟨rfl, ⟨nd2, rfl⟩⟩))
      go_ret2
      exact ⟨rfl, pw_below_drewN hb _⟩
    | true =>
      simp only [if_true] at h2
      by_cases hn : 0 ≤ a2 ∧ a2 ≤ 16
      case neg => rw [if_neg hn] at h2; cases h2
      rw [if_pos hn] at h2
      obtain ⟨p, hp, h3⟩ := Option.bind_eq_some_iff.1 h2
      simp only [Option.some.injEq, Prod.mk.injEq] at h3
      obtain ⟨rfl, rfl⟩ := h3
      have n0 : (0 ≤ a2) = True := eq_true hn.1
      have n1 : decide (0 ≤ a2) = true := decide_eq_true hn.1
      obtain ⟨j1, hj1⟩ : ∃ j_ : Int, shl .u16 1 a2 = j_ := ⟨_, rfl⟩
      have hj_ : (IntKind.u16.wrap (1 * 2 ^ min a2.toNat 16)) = j1 := hj1
      have hjz : (IntKind.u16.wrap (1 * 2 ^ a2.toNat)) = j1 := shl_small hj1 (by show a2 ≤ 16; omega)
      have hju : (IntKind.u16.wrap (2 ^ min a2.toNat 16)) = j1 := by have h_ := hj_; rw [Int.one_mul] at h_; exact h_
      have hjv : (IntKind.u16.wrap (2 ^ a2.toNat)) = j1 := by have h_ := hjz; rw [Int.one_mul] at h_; exact h_
      rw [hj1] at hp
      have HP := Aside0.mk hp
      obtain ⟨m1, hm1⟩ : ∃ m_ : Int, mx p.1 0 = m_ := ⟨_, rfl⟩
      have hm1_ : (if p.1 < 0 then 0 else p.1) = m1 := hm1
      rw [hm1]
      have HMX := Aside0.mk hm1_
      clear h2 hp hn hj1 hm1 hm1_
      go_enter Try.func36, Try.ntmps36
      go_wp2_with (first | (go_at_call 67; refine (hA _ HR.out).mono ?_; rintro e w1 ⟨rfl, hb⟩) | (go_at_call 68; refine (hI _).mono ?_; rintro e w2 ⟨rfl, ⟨nd2, rfl⟩⟩))
      refine start_ (n := 7) (S := fun _ => True) (ds := []) #[false, false, false, false, false, false, false] (by kernel_rfl) rfl rfl trivial (fun _ => ?_)
      have HBD := Aside0.mk (below_drew1 (pw_below_drewN hb nd2))
      clear hb
      refine pure_ (i := 0) (N := some 19) (v := ?_) (a' := ?_) #[true, false, false, false, false, false, false] rfl rfl (by kernel_rfl) (fun _ _ _ h => h) (Or.inl ⟨by rfl, ?_⟩) ?_ ?_
      (rotate_left; intro w'; go_simp; with_reducible rfl; rotate_left; simp only [Act.put, List.setIfInBounds_toArray, List.set_cons_zero, List.set_cons_succ, i64_w, i32_w]; rfl)
      refine pure_ (i := 1) (N := some 20) (v := ?_) (a' := ?_) #[true, true, false, false, false, false, false] rfl rfl (by kernel_rfl) (fun _ _ _ h => h) (Or.inl ⟨by rfl, ?_⟩) ?_ ?_
      (rotate_left; intro w'; go_simp; with_reducible rfl; rotate_left; simp only [Act.put, List.setIfInBounds_toArray, List.set_cons_zero, List.set_cons_succ, i64_w, i32_w]; rfl)
      refine pure_ (i := 3) (N := some 22) (v := ?_) (a' := ?_) #[true, true, false, true, false, false, false] rfl rfl (by kernel_rfl) (fun _ _ _ h => h) (Or.inl ⟨by rfl, ?_⟩) ?_ ?_
      (rotate_left; intro w'; go_simp; with_reducible rfl; rotate_left; simp only [Act.put, List.setIfInBounds_toArray, List.set_cons_zero, List.set_cons_succ, i64_w, i32_w]; rfl)
      refine pure_ (i := 4) (N := some 23) (v := ?_) (a' := ?_) #[true, true, false, true, true, false, false] rfl rfl (by kernel_rfl) (fun _ _ _ h => h) (Or.inl ⟨by rfl, ?_⟩) ?_ ?_
      (rotate_left; intro w'; go_simp; with_reducible rfl; rotate_left; simp only [Act.put, List.setIfInBounds_toArray, List.set_cons_zero, List.set_cons_succ, i64_w, i32_w]; rfl)
      refine one_ (i := 2) (N := some 21) #[true, true, true, true, true, false, false] rfl rfl (by kernel_rfl) (by decide) (fun K hK => ?_)
      refine goes_ Try.func69 (by kernel_rfl) rfl #[.int .i64 a0, .slice A1 l1.length c1] (by rfl) rfl rfl (by (try simp only [List.map_toArray, List.map_cons, List.map_nil]); first | done | rfl) ?_
      refine (Go.Proofs.Ytgcpbaipdpchfaa.H.spreadOf_c a0 A1 l1.length c1 _).mono ?_
      rintro e w3 ⟨g, rfl, hg, hm3, hb3⟩
      refine ⟨_, rfl, ?_⟩
      have HB3 := Aside0.mk (below_step HBD.out hb3)
      have HM3 := Aside0.mk hm3
      have HG3 : Aside0 (w.heap.size ≤ g) := ⟨Nat.le_trans (below_size HBD.out) hg⟩
      clear hm3 hb3 hg HBD
      refine hK.out _ _ trivial (fun _ => ?_)
      clear hK K
      refine norm_ (a' := ?_) ?_ ?_
      rotate_left
      · show Act.put _ (some 21) _ = _
        simp only [Act.put, List.setIfInBounds_toArray, List.set_cons_zero, List.set_cons_succ, i64_w, i32_w]
        rfl
      refine one_ (i := 5) (N := some 24) #[true, true, true, true, true, true, false] rfl rfl (by kernel_rfl) (by decide) (fun K hK => ?_)
      refine goes_ Try.func70 (by kernel_rfl) rfl #[.agg #[.int .i64 a0, .slice A1 l1.length c1, .map (some g)], .int .u16 j1] (by rfl) rfl rfl (by (try simp only [List.map_toArray, List.map_cons, List.map_nil]); first | done | rfl) ?_
      refine (impl_spread_left.calls k a0 A1 c1 l1 g j1 [] p.2 p.1 w3 HC.out (Kd.F_mono (Kd.F_below (Kd.F_mono HF.out (fun k hk => hk)) (HB3.out)) (fun b hb => by have := HG3.out; omega)) HM3.out HP.out).mono ?_
      rintro e w4 ⟨rfl, hm4, hf4⟩
      refine ⟨_, rfl, ?_⟩
      have HB4 : Aside0 (Below w.heap.size w w4) := ⟨HB3.out.trans ⟨hf4.os, hf4.tape, hf4.output, hf4.size, fun b hb => hf4.block b (Nat.lt_of_lt_of_le hb (below_size HB3.out)) (by have := HG3.out; omega) (Go.Proofs.Ytgcpbaipdpchfaa.H.own_nil b)⟩⟩
      clear hm4 hf4 HB3 HM3
      refine hK.out _ _ trivial (fun _ => ?_)
      clear hK K
      refine norm_ (a' := ?_) ?_ ?_
      rotate_left
      · show Act.put _ (some 24) _ = _
        simp only [Act.put, List.setIfInBounds_toArray, List.set_cons_zero, List.set_cons_succ, i64_w, i32_w]
        rfl
      refine pure_ (i := 6) (N := some 8) (v := ?_) (a' := ?_) #[true, true, true, true, true, true, true] rfl rfl (by kernel_rfl) (fun _ _ _ h => h) (Or.inl ⟨by rfl, ?_⟩) ?_ ?_
      (rotate_left; intro w'; go_simp; with_reducible rfl; rotate_left; simp only [Act.put, List.setIfInBounds_toArray, List.set_cons_zero, List.set_cons_succ, i64_w, i32_w]; rfl)
      refine done_ (by kernel_rfl) ?_
      have hm1_ := HMX.out
      try go_wp2
      go_ret2
      exact ⟨rfl, HB4.out⟩


end Go.Proofs.Ytgcpbaipdpchfaa.PFnExactSpreadRounds
