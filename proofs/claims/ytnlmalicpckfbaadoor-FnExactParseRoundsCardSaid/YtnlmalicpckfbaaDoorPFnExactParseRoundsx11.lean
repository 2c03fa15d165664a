-- Written by the session's mkprint.py over the kit's print.py (function texts marked OURS are the session's own).
import Derived.Test.YtnlmalicpckfbaaDoorPFnExactParseRoundsx0
import Derived.Test.YtnlmalicpckfbaaDoorHContRow
import Derived.Test.YtnlmalicpckfbaaDoorPFnExactParseRoundsx10
import Derived.Test.YtnlmalicpckfbaaDoorPFnExactParseRoundsx6
namespace Go.Proofs.YtnlmalicpckfbaaDoor.PFnExactParseRounds
open Go.RowKit Go.Proofs.YtnlmalicpckfbaaDoorW.PrintWords Go.Proofs.YtnlmalicpckfbaaDoorW.PrintLast Go.Proofs.YtnlmalicpckfbaaDoorW.PrintMore
attribute [local go_sem] max2_int min2_int max_two min_two max_three min_three max_four min_four   -- for this text's walks alone
set_option linter.unusedVariables false
set_option linter.unusedSimpArgs false

/-! ### impl_AreRounds: OURS: function 32 -/
theorem areFriendsR_f (n : Int) : impl_areFriends.f n = some (decide (1 ≤ n) && decide (n ≤ 10)) := by
  unfold impl_areFriends.f impl_within.f
  by_cases h1 : 1 ≤ n <;> by_cases h2 : n ≤ 10 <;> simp [h1, h2]
def impl_AreRounds.g (k : Nat) (n : Int) (x : List S41) : Option Bool := (impl_isRound.f k n x).bind fun b => some (!b)
def impl_AreRounds.f (k : Nat) (a0 : Int) (l1 : List (List S41)) : Option Bool := if 1 ≤ a0 ∧ a0 ≤ 10 ∧ l1.length ≤ 20 then (Go.Proofs.YtnlmalicpckfbaaDoor.H.anyO (impl_AreRounds.g k a0) l1).bind fun b => some (!b) else some false
theorem impl_AreRounds.mono : ∀ a0 a1 k, LeO (impl_AreRounds.f k a0 a1) (impl_AreRounds.f (k + 1) a0 a1) := fun a0 a1 k => LeO.ite (LeO.bind (Go.Proofs.YtnlmalicpckfbaaDoor.H.anyO_mono (fun x => LeO.bind (impl_isRound.mono _ _ _) (fun _ => LeO.refl _)) _) (fun _ => LeO.refl _)) (LeO.refl _)
set_option maxHeartbeats 1000000 in
set_option maxRecDepth 100000 in
theorem areRounds_lit (kq : Nat) (n : Int) (g : Nat) (w : World) (hg : w.heap[g]? = some (.cells #[.int .i64 n] 3 (0, 0))) :
    Go.Proofs.YtnlmalicpckfbaaDoor.H.PredRow 48 #[.pointer (some ⟨g, 0, none⟩)] k41 (impl_AreRounds.g kq n) w := by
  intro W x A0 c0 r hb hC hl hr
  have hc0 : W.cell? ⟨g, 0, none⟩ = some (.int .i64 n) := by
    have h1 : w.cell? ⟨g, 0, none⟩ = some (.int .i64 n) := (blk_cell hg 0).trans rfl
    exact Go.Proofs.YtnlmalicpckfbaaDoor.H.cell_b hb h1
  have hB := Aside0.mk hb
  clear hb hg
  show Calls _ _ #[.slice A0 x.length c0, .pointer (some ⟨g, 0, none⟩)] W fun e w' => e = .returned (.bool r) ∧ Below w.heap.size w w'
  obtain ⟨b, hb, hr⟩ := Option.bind_eq_some_iff.1 hr
  obtain rfl := Option.some.inj hr
  clear hr
  have hcall := fun W2 hx => impl_isRound.calls kq n A0 c0 x b W2 hx hl hb
  have HC := Aside0.mk hC
  clear hC hl hb
  go_enter Tryd.func48, Tryd.ntmps48
  go_wp2_with (go_at_call 49; refine (hcall _ HC.out).mono ?_; rintro e w' ⟨rfl, hb'⟩; have HB2 := Aside0.mk hb'; clear hb')
  go_ret
  exact ⟨rfl, below_step hB.out HB2.out⟩

set_option maxHeartbeats 1000000 in
set_option maxRecDepth 100000 in
theorem impl_AreRounds.calls (k : Nat) (a0 : Int) (A1 : Option Addr) (c1 : Nat) (l1 : List (List S41)) (r : Bool) (w : World) (hr1 : Kd.C (Kd.slice 41 k41) w A1 l1.length l1) (hc1 : l1.length ≤ c1) (h : impl_AreRounds.f k a0 l1 = some r) :
    Calls Tryd.prog 32 #[.int .i64 a0, .slice A1 l1.length c1] w fun e w' => e = .returned (.bool r) ∧ Below w.heap.size w w' := by
  have hmax : (l1.length : Int) ≤ 9223372036854775807 := by have := Kd.C_max hr1; omega
  have hF := fun W2 => impl_areFriends.calls a0 _ W2 (areFriendsR_f a0)
  by_cases h1 : 1 ≤ a0 ∧ a0 ≤ 10
  · have e1 : (decide (1 ≤ a0) && decide (a0 ≤ 10)) = true := by simp [h1]
    rw [e1] at hF
    by_cases h2 : (l1.length : Int) ≤ 20
    · unfold impl_AreRounds.f at h
      rw [if_pos ⟨h1.1, h1.2, by omega⟩] at h
      obtain ⟨q, hq, hr⟩ := Option.bind_eq_some_iff.1 h
      obtain rfl := Option.some.inj hr
      clear hr h
      have hlit := areRounds_lit k a0 w.heap.size
      have HR := Aside0.mk hr1
      clear hr1
      have eg := enters_of Tryd.func48 (by kernel_rfl) rfl
      have hcont := fun W2 hx hy => Go.Proofs.YtnlmalicpckfbaaDoor.H.containsFuncRow (d := k41) (T := 41) (impl_AreRounds.g k a0) 48 #[.pointer (some ⟨w.heap.size, 0, none⟩)] eg A1 c1 l1 q W2 hx (hlit W2 hy) hq
      clear hlit hq
      have HCO := Aside0.mk hcont
      clear hcont
      go_enter Tryd.func32, Tryd.ntmps32
      go_wp2_with (first | (go_at_call 35; refine (hF _).mono ?_; rintro e w' ⟨rfl, ⟨nd, rfl⟩⟩) | (go_at_call 47; refine (HCO.out _ (Kd.C_drewN (Kd.C_alloc HR.out _) _) (blk_drewN (blk_new _ _) _)).mono ?_; rintro e w' ⟨rfl, hb'⟩))
      go_ret
      exact ⟨rfl, below_step (pw_below_drewN (below_alloc (Below.refl _ _) _) _) hb'⟩
    · unfold impl_AreRounds.f at h
      rw [if_neg (fun hh => h2 (by omega))] at h
      obtain rfl := Option.some.inj h
      clear hr1 h
      go_enter Tryd.func32, Tryd.ntmps32
      go_wp2_with (go_at_call 35; refine (hF _).mono ?_; rintro e w' ⟨rfl, ⟨nd, rfl⟩⟩)
      go_ret
      exact ⟨rfl, pw_below_drewN (below_alloc (Below.refl _ _) _) _⟩
  · have e1 : (decide (1 ≤ a0) && decide (a0 ≤ 10)) = false := by rw [Bool.eq_false_iff]; simpa using h1
    rw [e1] at hF
    unfold impl_AreRounds.f at h
    rw [if_neg (fun hh => h1 ⟨hh.1, hh.2.1⟩)] at h
    obtain rfl := Option.some.inj h
    clear hr1 h
    go_enter Tryd.func32, Tryd.ntmps32
    go_wp2_with (go_at_call 35; refine (hF _).mono ?_; rintro e w' ⟨rfl, ⟨nd, rfl⟩⟩)
    go_ret
    exact ⟨rfl, pw_below_drewN (below_alloc (Below.refl _ _) _) _⟩


end Go.Proofs.YtnlmalicpckfbaaDoor.PFnExactParseRounds
