/- The contract of math/bits.OnesCount16: for every uint16 it returns how many of its digits are 1. -/
import Derived.Test.YtgcpbaipdpchfaaHBase
import Derived.Lib.Tables
import Derived.Lib.BitFns
import Derived.Laws.BitsAllLaws
namespace Go.Proofs.Ytgcpbaipdpchfaa.H
open Go.RowKit Go.Proofs.YtgcpbaipdpchfaaW.PrintWords Go.Proofs.YtgcpbaipdpchfaaW.PrintLast Go.Proofs.YtgcpbaipdpchfaaW.PrintMore

/-- How many of the lower 16 digits are 1. -/
def pop16 (x : Nat) : Nat := (List.range 16).countP fun i => x.testBit i

theorem pop8_list : ∀ n : Fin 256, Go.Lib.pop8 (n.val : Int) = (((List.range 8).countP fun i => n.val.testBit i : Nat) : Int) := by decide +kernel
theorem pop8_le (b : Int) (h0 : 0 ≤ b) (h1 : b < 256) : Go.Lib.pop8 b = (((List.range 8).countP fun i => b.toNat.testBit i : Nat) : Int) := by
  have e := pop8_list ⟨b.toNat, by omega⟩
  simp only [Int.toNat_of_nonneg h0] at e
  exact e
theorem pop8_at (i : Int) (h : i.toNat < Go.Lib.pop8tab.size) : ((Go.Lib.pop8tab[i.toNat]'h).toNat : Int) = Go.Lib.pop8 i := by
  unfold Go.Lib.pop8
  rw [getElem?_pos Go.Lib.pop8tab i.toNat h]
  rfl
theorem range16 : List.range 16 = List.range 8 ++ (List.range 8).map (· + 8) := by decide
theorem pop16_split (x : Nat) : pop16 x = (List.range 8).countP (fun i => (x % 256).testBit i) + (List.range 8).countP (fun i => (x / 256).testBit i) := by
  unfold pop16
  rw [range16, List.countP_append, List.countP_map]
  congr 1
  · apply List.countP_congr
    intro i hi
    have : i < 8 := by simpa using hi
    rw [show (256 : Nat) = 2 ^ 8 by rfl, Nat.testBit_mod_two_pow]
    simp [this]
  · apply List.countP_congr
    intro i hi
    rw [show (256 : Nat) = 2 ^ 8 by rfl, Nat.testBit_div_two_pow]
    simp
theorem countP_le8 (p : Nat → Bool) : (List.range 8).countP p ≤ 8 := by
  have := List.countP_le_length (p := p) (l := List.range 8)
  simpa using this

set_option maxHeartbeats 1000000 in
set_option maxRecDepth 100000 in
theorem onesCount16_c (a0 : Int) (w : World) (h0 : 0 ≤ a0) (h1 : a0 < 65536) :
    Calls Try.prog 119 #[.int .u16 a0] w fun e w' => e = .returned (.int .i64 (pop16 a0.toNat : Int)) ∧ Drawn0 w w' := by
  have hu5 := Try.underlying5
  have hu3 := Try.underlying3
  have hu9 := Try.underlying9
  have hand : bits .and .u16 a0 255 = a0 % 256 := by
    rw [u16_and a0 255 h0 h1 (by omega) (by omega)]
    have : a0.toNat &&& (255 : Int).toNat = a0.toNat % 256 := Nat.and_two_pow_sub_one_eq_mod a0.toNat 8
    rw [this]; omega
  have q0 : 0 ≤ a0 / 256 := by omega
  have q1 : a0 / 256 < 256 := by omega
  have q2 : 0 ≤ a0 % 256 := by omega
  have q3 : a0 % 256 < 256 := by omega
  have hp := pop8_le (a0 / 256) q0 q1
  have hp' := pop8_le (a0 % 256) q2 q3
  have hl := countP_le8 fun i => (a0 / 256).toNat.testBit i
  have hl' := countP_le8 fun i => (a0 % 256).toNat.testBit i
  have hs := pop16_split a0.toNat
  have e1 : (a0 / 256).toNat = a0.toNat / 256 := by omega
  have e2 : (a0 % 256).toNat = a0.toNat % 256 := by omega
  have HP : Aside0 ((((Go.Lib.pop8 (a0 / 256) + Go.Lib.pop8 (a0 % 256)) : Int) = (pop16 a0.toNat : Int)) ∧ 0 ≤ Go.Lib.pop8 (a0 / 256) ∧ Go.Lib.pop8 (a0 / 256) ≤ 8 ∧ 0 ≤ Go.Lib.pop8 (a0 % 256) ∧ Go.Lib.pop8 (a0 % 256) ≤ 8) := by
    constructor
    rw [hp, hp', hs, ← e1, ← e2]
    omega
  have hsz := Go.Lib.pop8tab_size
  clear hp hp' hl hl' hs e1 e2
  go_enter Try.func119, Try.ntmps119
  go_wp2
  go_quiet (fail)
  go_wp2
  go_ret
  refine ⟨congrArg (fun z => Ending.returned (.int .i64 z)) (?_ : (((Go.Lib.pop8tab[(a0 / 256).toNat]'(by rw [Go.Lib.pop8tab_size]; omega)).toNat : Int) + Go.Lib.pop8 (a0 % 256)) % 256 = (pop16 a0.toNat : Int)), ⟨⟨nq, rfl⟩⟩⟩
  have hh := HP.out
  rw [pop8_at (a0 / 256) (by rw [Go.Lib.pop8tab_size]; omega)]
  omega
end Go.Proofs.Ytgcpbaipdpchfaa.H
