-- Written by the session's mkprint.py over the kit's print.py (function texts marked OURS are the session's own).
import Derived.Test.YtipihdhghbkpfaaPFnExactAreCallsx0
import Derived.Test.YtipihdhghbkpfaaHContCall
import Derived.Test.YtipihdhghbkpfaaPFnExactAreCallsx10
import Derived.Test.YtipihdhghbkpfaaPFnExactAreCallsx11
import Derived.Test.YtipihdhghbkpfaaPFnExactAreCallsx9
namespace Go.Proofs.Ytipihdhghbkpfaa.PFnExactAreCalls
open Go.RowKit Go.Proofs.YtipihdhghbkpfaaW.PrintWords Go.Proofs.YtipihdhghbkpfaaW.PrintLast Go.Proofs.YtipihdhghbkpfaaW.PrintMore
attribute [local go_sem] max2_int min2_int max_two min_two max_three min_three max_four min_four   -- for this text's walks alone
set_option linter.unusedVariables false
set_option linter.unusedSimpArgs false

/-! ### impl_AreCalls: OURS: function 18 -/
def isCallB (n a b : Int) : Bool := decide (0 ≤ a) && (decide (a < b) && decide (b < n))
theorem isCall_f (n a b : Int) : impl_isCall.f n a b = some (isCallB n a b) := by
  unfold impl_isCall.f isCallB
  by_cases h1 : 0 ≤ a <;> by_cases h2 : a < b <;> by_cases h3 : b < n <;> simp [h1, h2, h3]
def areCallsB (n : Int) (l : List S53) : Bool := decide (1 ≤ n) && (decide (n ≤ 10) && (decide (l.length ≤ 60) && l.all fun c => isCallB n c.f0 c.f1))
theorem areFriends_f (n : Int) : impl_areFriends.f n = some (decide (1 ≤ n) && decide (n ≤ 10)) := by
  unfold impl_areFriends.f impl_within.f
  by_cases h1 : 1 ≤ n <;> by_cases h2 : n ≤ 10 <;> simp [h1, h2]
instance : Inhabited S53 := ⟨z53⟩
set_option maxHeartbeats 1000000 in
set_option maxRecDepth 100000 in
theorem areCalls_lit (n : Int) (g : Nat) (w : World) (hg : w.heap[g]? = some (.cells #[.int .i64 n] 3 (0, 0))) :
    Go.Proofs.Ytipihdhghbkpfaa.H.PredCall 55 #[.pointer (some ⟨g, 0, none⟩)] S53.f0 S53.f1 (fun c => !isCallB n c.f0 c.f1) w := by
  rintro W ⟨a, b⟩ hb
  have hc0 : W.cell? ⟨g, 0, none⟩ = some (.int .i64 n) := by
    have h1 : w.cell? ⟨g, 0, none⟩ = some (.int .i64 n) := (blk_cell hg 0).trans rfl
    exact Go.Proofs.Ytipihdhghbkpfaa.H.cell_b hb h1
  have hc1 : ∀ o, (W.alloc o).cell? ⟨g, 0, none⟩ = some (.int .i64 n) := fun o => Go.Proofs.Ytipihdhghbkpfaa.H.cell_b (below_alloc (Below.refl _ _) o) hc0
  clear hc0
  have hB := Aside0.mk hb
  clear hb hg
  show Calls _ _ #[.agg #[.int .i64 a, .int .i64 b], .pointer (some ⟨g, 0, none⟩)] W fun e w' => e = .returned (.bool (!isCallB n a b)) ∧ Below w.heap.size w w'
  have hcall := fun W2 => impl_isCall.calls n a b _ W2 (isCall_f n a b)
  generalize isCallB n a b = q at hcall ⊢
  have hu := Try.underlying53
  go_enter Try.func55, Try.ntmps55
  go_wp2_with (go_at_call 56; refine (hcall _).mono ?_; rintro e w' ⟨rfl, hb'⟩)
  go_ret
  exact ⟨rfl, below_step (below_alloc hB.out _) hb'⟩

def impl_AreCalls.f (a0 : Int) (l1 : List S53) : Option Bool := some (areCallsB a0 l1)
set_option maxHeartbeats 1000000 in
set_option maxRecDepth 100000 in
theorem impl_AreCalls.calls (a0 : Int) (A1 : Option Addr) (c1 : Nat) (l1 : List S53) (r : Bool) (w : World) (hr1 : Kd.C k53 w A1 l1.length l1) (hc1 : l1.length ≤ c1) (h : impl_AreCalls.f a0 l1 = some r) :
    Calls Try.prog 18 #[.int .i64 a0, .slice A1 l1.length c1] w fun e w' => e = .returned (.bool r) ∧ Below w.heap.size w w' := by
  obtain rfl := Option.some.inj h
  have hmax : (l1.length : Int) ≤ 9223372036854775807 := by have := Kd.C_max hr1; omega
  have hF := fun W2 => impl_areFriends.calls a0 _ W2 (areFriends_f a0)
  by_cases h1 : 1 ≤ a0 ∧ a0 ≤ 10
  · have e1 : (decide (1 ≤ a0) && decide (a0 ≤ 10)) = true := by simp [h1]
    rw [e1] at hF
    by_cases h2 : (l1.length : Int) ≤ 60
    · have hA : areCallsB a0 l1 = !(l1.any fun c => !isCallB a0 c.f0 c.f1) := by
        have h2' : l1.length ≤ 60 := by omega
        simp [areCallsB, h1, h2', List.all_eq_not_any_not]
      rw [hA]
      have hlit := areCalls_lit a0 w.heap.size
      have HR := Aside0.mk hr1
      clear hr1 hA
      have eg := enters_of Try.func55 (by kernel_rfl) rfl
      have hcont := fun W2 hx hy => Go.Proofs.Ytipihdhghbkpfaa.H.containsFuncCall (d := k53) (fa := S53.f0) (fb := S53.f1) rfl (fun _ _ _ h => k53_open h) (fun c => !isCallB a0 c.f0 c.f1) 55 #[.pointer (some ⟨w.heap.size, 0, none⟩)] eg A1 c1 l1 W2 hx (hlit W2 hy)
      clear hlit
      generalize (l1.any fun c => !isCallB a0 c.f0 c.f1) = q at hcont ⊢
      have HCO := Aside0.mk hcont
      clear hcont
      go_enter Try.func18, Try.ntmps18
      go_wp2_with (first | (go_at_call 53; refine (hF _).mono ?_; rintro e w' ⟨rfl, ⟨nd, rfl⟩⟩) | (go_at_call 54; refine (HCO.out _ (Kd.C_drewN (Kd.C_alloc HR.out _) _) (blk_drewN (blk_new _ _) _)).mono ?_; rintro e w' ⟨rfl, hb'⟩))
      go_ret
      exact ⟨rfl, below_step (pw_below_drewN (below_alloc (Below.refl _ _) _) _) hb'⟩
    · have hA : areCallsB a0 l1 = false := by
        have h2' : ¬ l1.length ≤ 60 := by omega
        simp [areCallsB, h2']
      rw [hA]
      clear hr1 hA
      go_enter Try.func18, Try.ntmps18
      go_wp2_with (go_at_call 53; refine (hF _).mono ?_; rintro e w' ⟨rfl, ⟨nd, rfl⟩⟩)
      go_ret
      exact ⟨rfl, pw_below_drewN (below_alloc (Below.refl _ _) _) _⟩
  · have e1 : (decide (1 ≤ a0) && decide (a0 ≤ 10)) = false := by rw [Bool.eq_false_iff]; simpa using h1
    rw [e1] at hF
    have hA : areCallsB a0 l1 = false := by
      rw [Bool.eq_false_iff]; intro hh; simp [areCallsB] at hh; exact h1 ⟨hh.1, hh.2.1⟩
    rw [hA]
    clear hr1 hA
    go_enter Try.func18, Try.ntmps18
    go_wp2_with (go_at_call 53; refine (hF _).mono ?_; rintro e w' ⟨rfl, ⟨nd, rfl⟩⟩)
    go_ret
    exact ⟨rfl, pw_below_drewN (below_alloc (Below.refl _ _) _) _⟩


end Go.Proofs.Ytipihdhghbkpfaa.PFnExactAreCalls
