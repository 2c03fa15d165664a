/- The contracts of slices.IndexFunc and slices.ContainsFunc at calls, for whatever predicate leaves what lay in memory unturned: ContainsFunc tells whether the predicate holds of an element. -/
import Derived.Test.YtgcpbaipdpchfaaHBase
namespace Go.Proofs.Ytgcpbaipdpchfaa.H
open Go.RowKit Go.Proofs.YtgcpbaipdpchfaaW.PrintWords Go.Proofs.YtgcpbaipdpchfaaW.PrintLast Go.Proofs.YtgcpbaipdpchfaaW.PrintMore

section
variable {α : Type} [Inhabited α] {d : Kd α} {fa fb : α → Int}

/-- What is asked of the predicate. -/
def PredCall (g : Nat) (lb : Array Value) (fa fb : α → Int) (p : α → Bool) (w : World) : Prop :=
  ∀ (W : World) (x : α), Below w.heap.size w W → Calls Try.prog g (#[.agg #[.int .i64 (fa x), .int .i64 (fb x)]] ++ lb) W fun e w' => e = .returned (.bool (p x)) ∧ Below w.heap.size w w'

def IdxPostCall (b : Bool) (w : World) (e : Ending) (w' : World) : Prop := ∃ n : Int, e = .returned (.int .i64 n) ∧ decide (0 ≤ n) = b ∧ Below w.heap.size w w'

set_option maxHeartbeats 2000000 in
set_option maxRecDepth 100000 in
theorem indexFuncCall (hs : d.sz = 2) (ho : ∀ w x cs, d.K w x cs → cs = [.int .i64 (fa x), .int .i64 (fb x)]) (p : α → Bool) (g : Nat) (lb : Array Value) (eg : ∀ args w, (callFunc g args).run Try.prog w = .ok (.enter g args) w)
    (A : Option Addr) (c : Nat) (l : List α) (w : World) (hc : Kd.C d w A l.length l) (hp : PredCall g lb fa fb p w) :
    Calls Try.prog 107 #[.slice A l.length c, .func (.func g) #[] lb] w (IdxPostCall (l.any p) w) := by
  have hu := Try.underlying54
  have HC := Aside0.mk hc
  have hmax : (l.length : Int) ≤ 9223372036854775807 := by have := Kd.C_max hc; omega
  clear hc
  go_enter Try.func107, Try.ntmps107
  go_wp2
  go_loopg [5, 8] l.length (fun gg _ s8 wr => ∃ kk : Int, 0 ≤ kk ∧ kk ≤ l.length ∧ (l.length : Int) - kk ≤ gg ∧ s8 = .int .i64 kk ∧ Aside0 (Below w.heap.size w wr) ∧ Aside0 (l.any p = (l.drop kk.toNat).any p))
  case atStart => exact ⟨0, by omega, by omega, by omega, rfl, ⟨Below.refl _ w⟩, ⟨by simp⟩⟩
  case round =>
    obtain ⟨kk, hk0, hkk, hg, rfl, BW, HA⟩ := hrel
    by_cases hlt : kk < (l.length : Int)
    · obtain ⟨ad, rfl, c0, c1⟩ := at_pair hs ho HC.out kk hk0 hlt
      replace c0 := cell_b BW.out c0
      replace c1 := cell_b BW.out c1
      have hcall := hp wr (l.getD kk.toNat default) BW.out
      have hdrop : (l.drop kk.toNat).any p = (p (l.getD kk.toNat default) || (l.drop (kk.toNat + 1)).any p) := by
        have hlen : kk.toNat < l.length := by omega
        rw [List.drop_eq_getElem_cons hlen, List.any_cons, List.getD_eq_getElem?_getD, List.getElem?_eq_getElem hlen]; rfl
      have HD := Aside0.mk hdrop
      clear hdrop hp
      generalize l.getD kk.toNat default = x at c0 c1 hcall HD
      have hw : wrap64 (kk + 1) = kk + 1 := by unfold wrap64; omega
      have HW := Aside0.mk hw
      clear hw
      cases hq : p x with
      | true =>
        rw [hq] at hcall
        have HQ := Aside0.mk hq
        clear hq
        go_wp2_with (go_at_fn g; refine hcall.mono ?_; rintro e w' ⟨rfl, hb'⟩)
        go_ret
        refine ⟨kk, rfl, ?_, hb'⟩
        rw [HA.out, HD.out, HQ.out]; simp [hk0]
      | false =>
        rw [hq] at hcall
        have HQ := Aside0.mk hq
        clear hq
        go_wp2_with (go_at_fn g; refine hcall.mono ?_; rintro e w' ⟨rfl, hb'⟩)
        go_roundg (gk - 1)
        case measure => omega
        case rel =>
          refine ⟨kk + 1, by omega, by omega, by omega, by go_num, ⟨hb'⟩, ⟨?_⟩⟩
          rw [HA.out, HD.out, HQ.out, Bool.false_or]
          congr 2
          omega
    · have : kk = l.length := by omega
      subst this
      go_wp2
      go_ret
      refine ⟨-1, rfl, ?_, BW.out⟩
      rw [HA.out]; simp

set_option maxHeartbeats 1000000 in
set_option maxRecDepth 100000 in
theorem containsFuncCall (hs : d.sz = 2) (ho : ∀ w x cs, d.K w x cs → cs = [.int .i64 (fa x), .int .i64 (fb x)]) (p : α → Bool) (g : Nat) (lb : Array Value) (eg : ∀ args w, (callFunc g args).run Try.prog w = .ok (.enter g args) w)
    (A : Option Addr) (c : Nat) (l : List α) (w : World) (hc : Kd.C d w A l.length l) (hp : PredCall g lb fa fb p w) :
    Calls Try.prog 80 #[.slice A l.length c, .func (.func g) #[] lb] w fun e w' => e = .returned (.bool (l.any p)) ∧ Below w.heap.size w w' := by
  go_enter Try.func80, Try.ntmps80
  go_wp2_with (go_at_call 107; refine (indexFuncCall hs ho p g lb eg A c l _ hc hp).mono ?_; rintro e w' ⟨n, rfl, hn, hb'⟩; have HN := Aside0.mk hn; clear hn)
  go_ret
  exact ⟨by rw [← HN.out]; rfl, hb'⟩
end

end Go.Proofs.Ytgcpbaipdpchfaa.H
