/- The contracts of slices.IndexFunc and slices.ContainsFunc at rows of calls, for a predicate that leaves what lay in memory unturned and may fail to answer. -/
import Derived.Test.YtnlmalicpckfbaaDoorHBase
namespace Go.Proofs.YtnlmalicpckfbaaDoor.H
open Go.RowKit Go.Proofs.YtnlmalicpckfbaaDoorW.PrintWords Go.Proofs.YtnlmalicpckfbaaDoorW.PrintLast Go.Proofs.YtnlmalicpckfbaaDoorW.PrintMore

/-- Whether the predicate holds of an element, so far as it answers. -/
def anyO {α : Type} (f : α → Option Bool) : List α → Option Bool
  | [] => some false
  | x :: l => (f x).bind fun b => if b = true then some true else anyO f l
theorem anyO_mono {α : Type} {f g : α → Option Bool} (h : ∀ x, LeO (f x) (g x)) : ∀ l : List α, LeO (anyO f l) (anyO g l)
  | [] => LeO.refl _
  | x :: l => LeO.bind (h x) (fun _ => LeO.ite (LeO.refl _) (anyO_mono h l))
theorem at_row {α : Type} {d : Kd α} {T : TypeId} {w : World} {A : Option Addr} {n : Nat} {xs : List (List α)} (h : Kd.C (Kd.slice T d) w A n xs) (i : Int) (h0 : 0 ≤ i) (h1 : i < n) :
    ∃ ad A0 c0, A = some ad ∧ w.cell? (ad.add i.toNat) = some (.slice A0 (xs.getD i.toNat []).length c0) ∧ (xs.getD i.toNat []).length ≤ c0 ∧ d.C w A0 (xs.getD i.toNat []).length (xs.getD i.toNat []) := by
  obtain ⟨ad, c, e, _, hK, hc0⟩ := Kd.C_get h ([] : List α) i h0 h1
  have hc : ∀ j u, c[j]? = some u → w.cell? (ad.add (i.toNat * 1 + j)) = some u := hc0
  obtain ⟨A0, c0, rfl, l0, g0⟩ := hK
  exact ⟨ad, A0, c0, e, by have hq := hc 0 _ rfl; rwa [Nat.mul_one, Nat.add_zero] at hq, l0, g0⟩

section
variable {α : Type} {d : Kd α} {T : TypeId}

/-- What is asked of the predicate. -/
def PredRow (g : Nat) (lb : Array Value) (d : Kd α) (f : List α → Option Bool) (w : World) : Prop :=
  ∀ (W : World) (x : List α) (A0 : Option Addr) (c0 : Nat) (r : Bool), Below w.heap.size w W → d.C W A0 x.length x → x.length ≤ c0 → f x = some r → Calls Tryd.prog g (#[.slice A0 x.length c0] ++ lb) W fun e w' => e = .returned (.bool r) ∧ Below w.heap.size w w'

def IdxPostRow (b : Bool) (w : World) (e : Ending) (w' : World) : Prop := ∃ n : Int, e = .returned (.int .i64 n) ∧ decide (0 ≤ n) = b ∧ Below w.heap.size w w'

set_option maxHeartbeats 2000000 in
set_option maxRecDepth 100000 in
theorem indexFuncRow (f : List α → Option Bool) (g : Nat) (lb : Array Value) (eg : ∀ args w, (callFunc g args).run Tryd.prog w = .ok (.enter g args) w)
    (A : Option Addr) (c : Nat) (l : List (List α)) (b : Bool) (w : World) (hc : Kd.C (Kd.slice T d) w A l.length l) (hp : PredRow g lb d f w) (hb : anyO f l = some b) :
    Calls Tryd.prog 57 #[.slice A l.length c, .func (.func g) #[] lb] w (IdxPostRow b w) := by
  have HC := Aside0.mk hc
  have HI := Aside0.mk hb
  have hmax : (l.length : Int) ≤ 9223372036854775807 := by have := Kd.C_max hc; omega
  clear hc hb
  go_enter Tryd.func57, Tryd.ntmps57
  go_wp2
  go_loopg [5, 8] l.length (fun gg _ s8 wr => ∃ kk : Int, 0 ≤ kk ∧ kk ≤ l.length ∧ (l.length : Int) - kk ≤ gg ∧ s8 = .int .i64 kk ∧ Aside0 (Below w.heap.size w wr) ∧ Aside0 (anyO f (l.drop kk.toNat) = some b))
  case atStart => exact ⟨0, by omega, by omega, by omega, rfl, ⟨Below.refl _ w⟩, HI⟩
  case round =>
    obtain ⟨kk, hk0, hkk, hg, rfl, BW, HA⟩ := hrel
    by_cases hlt : kk < (l.length : Int)
    · obtain ⟨ad, A0, c0, rfl, hx, hl0, hC0⟩ := at_row HC.out kk hk0 hlt
      replace hx := cell_b BW.out hx
      replace hC0 := Kd.C_below hC0 BW.out
      have hcall := fun r hr => hp wr (l.getD kk.toNat []) A0 c0 r BW.out hC0 hl0 hr
      have hdrop : anyO f (l.drop kk.toNat) = (f (l.getD kk.toNat [])).bind fun b => if b = true then some true else anyO f (l.drop (kk.toNat + 1)) := by
        have hlen : kk.toNat < l.length := by omega
        rw [List.drop_eq_getElem_cons hlen, anyO, List.getD_eq_getElem?_getD, List.getElem?_eq_getElem hlen]; rfl
      have hd := HA.out
      rw [hdrop] at hd
      obtain ⟨q, hq, hd⟩ := Option.bind_eq_some_iff.1 hd
      replace hcall := hcall q hq
      clear hdrop hp hq hl0 hC0 HA
      generalize l.getD kk.toNat [] = x at hx hcall
      have hw : wrap64 (kk + 1) = kk + 1 := by unfold wrap64; omega
      have HW := Aside0.mk hw
      clear hw
      cases q with
      | true =>
        have HD := Aside0.mk (Option.some.inj hd)
        clear hd
        go_wp2_with (go_at_fn g; refine hcall.mono ?_; rintro e w' ⟨rfl, hb'⟩)
        go_ret
        refine ⟨kk, rfl, ?_, hb'⟩
        rw [← HD.out]; simp [hk0]
      | false =>
        have HD := Aside0.mk hd
        clear hd
        go_wp2_with (go_at_fn g; refine hcall.mono ?_; rintro e w' ⟨rfl, hb'⟩)
        go_roundg (gk - 1)
        case measure => omega
        case rel =>
          refine ⟨kk + 1, by omega, by omega, by omega, by go_num, ⟨hb'⟩, ⟨?_⟩⟩
          rw [show (kk + 1).toNat = kk.toNat + 1 by omega]
          exact HD.out
    · have : kk = l.length := by omega
      subst this
      have hd := HA.out
      rw [List.drop_eq_nil_of_le (by omega)] at hd
      have HD := Aside0.mk (Option.some.inj hd)
      clear hd
      go_wp2
      go_ret
      exact ⟨-1, rfl, by rw [← HD.out]; rfl, BW.out⟩

set_option maxHeartbeats 1000000 in
set_option maxRecDepth 100000 in
theorem containsFuncRow (f : List α → Option Bool) (g : Nat) (lb : Array Value) (eg : ∀ args w, (callFunc g args).run Tryd.prog w = .ok (.enter g args) w)
    (A : Option Addr) (c : Nat) (l : List (List α)) (b : Bool) (w : World) (hc : Kd.C (Kd.slice T d) w A l.length l) (hp : PredRow g lb d f w) (hb : anyO f l = some b) :
    Calls Tryd.prog 47 #[.slice A l.length c, .func (.func g) #[] lb] w fun e w' => e = .returned (.bool b) ∧ Below w.heap.size w w' := by
  go_enter Tryd.func47, Tryd.ntmps47
  go_wp2_with (go_at_call 57; refine (indexFuncRow (T := T) f g lb eg A c l b _ hc hp hb).mono ?_; rintro e w' ⟨n, rfl, hn, hb'⟩; have HN := Aside0.mk hn; clear hn)
  go_ret
  exact ⟨by rw [← HN.out]; rfl, hb'⟩
end

end Go.Proofs.YtnlmalicpckfbaaDoor.H
