-- Written by the session's mkprint.py over the kit's print.py (function texts marked OURS are the session's own).
import Derived.Test.YtgcpbaipdpchfaaPFnExactDoublingRoundsx0
import Derived.Test.YtgcpbaipdpchfaaPFnExactDoublingRoundsx10
import Derived.Test.YtgcpbaipdpchfaaPFnExactDoublingRoundsx6
namespace Go.Proofs.Ytgcpbaipdpchfaa.PFnExactDoublingRounds
open Go.RowKit Go.Proofs.YtgcpbaipdpchfaaW.PrintWords Go.Proofs.YtgcpbaipdpchfaaW.PrintLast Go.Proofs.YtgcpbaipdpchfaaW.PrintMore
attribute [local go_sem] max2_int min2_int max_two min_two max_three min_three max_four min_four   -- for this text's walks alone
set_option linter.unusedVariables false
set_option linter.unusedSimpArgs false

/-! ### impl_Call_43: OURS: function 43 -/
def impl_Call_43.f (l0 : List S54) : Option (List S54) := if l0.length ≤ 12 then impl_Call_98.f 1000 l0 0 (l0.length : Int) 0 else none
theorem u64_small : ∀ n : Fin 13, IntKind.u64.wrap (n.val : Int) = (n.val : Int) := by decide +kernel
theorem len_all : ∀ n : Fin 13, ∃ r, bits_Len.f 100 (n.val : Int) = some r := by
  intro n
  have h : ∀ n : Fin 13, (bits_Len.f 100 (n.val : Int)).isSome = true := by decide +kernel
  exact Option.isSome_iff_exists.1 (h n)
set_option maxHeartbeats 1000000 in
set_option maxRecDepth 100000 in
theorem pdq_c (P0_ : Nat → Prop) (u : Value) (l0 r : List S54) (x : Int) (w0 w : World) (hB : Below w0.heap.size w0 w) (ho0 : Kd.R k54 54 w w0.heap.size P0_ u l0) (h : impl_Call_43.f l0 = some r) :
    Calls Try.prog 76 #[u, .int .i64 0, .int .i64 (l0.length : Int), .int .i64 x, .func (.func 44) #[] #[]] w fun e w' => e = .returned (.tuple #[]) ∧ Kd.R k54 54 w' w0.heap.size (fun k_ => (P0_ k_ ∨ w.heap.size ≤ k_)) u r ∧ Below w0.heap.size w0 w' ∧ Kept w w' (fun k_ => P0_ k_) := by
  unfold impl_Call_43.f at h
  by_cases hl : l0.length ≤ 12
  case neg => rw [if_neg hl] at h; cases h
  rw [if_pos hl] at h
  have hI := impl_Call_98.calls 1000 P0_ u l0 0 (l0.length : Int) 0 r w0 w hB ho0 h
  have hs : wrap64 (l0.length : Int) = (l0.length : Int) := by unfold wrap64; omega
  have hc : decide ((l0.length : Int) ≤ 12) = true := decide_eq_true (by omega)
  obtain ⟨A, c, rfl⟩ := Kd.R_slice ho0
  have HI := Aside0.mk hI
  have HS := Aside0.mk hs
  clear hI h hB ho0 hl hs
  go_enter Try.func76, Try.ntmps76
  go_wp2
  go_loopg [1, 2] 1 (fun gg s1 s2 wr => s1 = .int .i64 0 ∧ s2 = .int .i64 (l0.length : Int) ∧ wr = w)
  case atStart => exact ⟨rfl, rfl, rfl⟩
  case round =>
    obtain ⟨rfl, rfl, rfl⟩ := hrel
    have hs := HS.out
    go_wp2_with (go_at_call 98; refine HI.out.mono ?_; rintro e w' ⟨rfl, h1, h2, h3⟩)
    first | go_end0 | ((try simp only [Exit.inBlock, Exit.then]); refine bodyPost_ret (results_none rfl _ _ _) rfl ?_)
    exact ⟨rfl, h1, h2, h3⟩
set_option maxHeartbeats 1000000 in
set_option maxRecDepth 100000 in
theorem impl_Call_43.calls (P0_ : Nat → Prop) (u : Value) (l0 : List S54) (r : List S54) (w0 w : World) (hB : Below w0.heap.size w0 w) (ho0 : Kd.R k54 54 w w0.heap.size P0_ u l0) (h : impl_Call_43.f l0 = some r) :
    Calls Try.prog 43 #[u, .func (.func 44) #[] #[]] w fun e w' => e = .returned (.tuple #[]) ∧ Kd.R k54 54 w' w0.heap.size (fun k_ => (P0_ k_ ∨ w.heap.size ≤ k_)) u r ∧ Below w0.heap.size w0 w' ∧ Kept w w' (fun k_ => P0_ k_) := by
  have hl : l0.length ≤ 12 := by
    unfold impl_Call_43.f at h
    by_cases hl : l0.length ≤ 12
    · exact hl
    · rw [if_neg hl] at h; cases h
  obtain ⟨x, hx⟩ := len_all ⟨l0.length, by omega⟩
  have hN := fun W => bits_Len.calls 100 (l0.length : Int) x W hx
  have hP := fun W hb ho => pdq_c P0_ u l0 r x w0 W hb ho h
  have hu : IntKind.u64.wrap (l0.length : Int) = (l0.length : Int) := u64_small ⟨l0.length, by omega⟩
  obtain ⟨A, c, rfl⟩ := Kd.R_slice ho0
  have HN := Aside0.mk hN
  have HP := Aside0.mk hP
  have HB := Aside0.mk hB
  have HO := Aside0.mk ho0
  clear hN hP hB ho0 h hx hl
  go_enter Try.func43, Try.ntmps43
  go_wp2_with (first | (go_at_call 75; refine (HN.out _).mono ?_; rintro e w' ⟨rfl, hd⟩; have HD := Aside0.mk hd; clear hd) | (go_at_call 76; refine (HP.out _ (below_step HB.out HD.out.below) (Kd.R_below HO.out HD.out.below)).mono ?_; rintro e w2 ⟨rfl, h1, h2, h3⟩; have H1 := Aside0.mk h1; have H2 := Aside0.mk h2; have H3 := Aside0.mk h3; clear h1 h2 h3))
  first | go_end0 | ((try simp only [Exit.inBlock, Exit.then]); refine bodyPost_ret (results_none rfl _ _ _) rfl ?_)
  obtain ⟨nd, rfl⟩ := HD.out
  exact ⟨rfl, Kd.R_mono H1.out (fun k hk => hk.imp id (fun h => h)), H2.out, H3.out⟩


end Go.Proofs.Ytgcpbaipdpchfaa.PFnExactDoublingRounds
