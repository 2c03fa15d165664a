/- The contract of impl.needed: for every closure whose result impl.news.allKnow tells apart as p says, the least number up to n of which p holds. -/
import Derived.Test.YtgcpbaipdpchfaaHBase
namespace Go.Proofs.Ytgcpbaipdpchfaa.H
open Go.RowKit Go.Proofs.YtgcpbaipdpchfaaW.PrintWords Go.Proofs.YtgcpbaipdpchfaaW.PrintLast Go.Proofs.YtgcpbaipdpchfaaW.PrintMore

def neededP (p : Nat → Bool) : Nat → Nat → Int × Bool
  | 0, _ => (0, false)
  | d + 1, k => if p k = true then ((k : Int), true) else neededP p d (k + 1)
theorem neededP_congr {p q : Nat → Bool} : ∀ (d k : Nat), (∀ i, k ≤ i → i < k + d → p i = q i) → neededP p d k = neededP q d k
  | 0, _, _ => rfl
  | d + 1, k, h => by
    have e := h k (Nat.le_refl _) (by omega)
    have ih := neededP_congr d (k + 1) (fun i h1 h2 => h i (by omega) (by omega))
    simp only [neededP, e, ih]
def neededO (g : Nat → Option Bool) (n : Nat) : Option (Int × Bool) := if n ≤ 1048576 ∧ ∀ i, i < n + 1 → (g i).isSome = true then some (neededP (fun i => g i == some true) (n + 1) 0) else none
theorem neededO_mono {g g' : Nat → Option Bool} {m : Nat} (h : ∀ i, LeO (g i) (g' i)) : LeO (neededO g m) (neededO g' m) := by
  intro r hr
  unfold neededO at hr ⊢
  by_cases hx : m ≤ 1048576 ∧ ∀ i, i < m + 1 → (g i).isSome = true
  case neg => rw [if_neg hx] at hr; cases hr
  rw [if_pos hx] at hr
  have e : ∀ i, i < m + 1 → g' i = g i := fun i hi => by
    obtain ⟨b, hb⟩ := Option.isSome_iff_exists.1 (hx.2 i hi)
    rw [hb]; exact h i b hb
  rw [if_pos ⟨hx.1, fun i hi => by rw [e i hi]; exact hx.2 i hi⟩, ← hr]
  exact congrArg some (neededP_congr _ _ (fun i _ hi => by rw [e i (by omega)]))
theorem neededO_some {g : Nat → Option Bool} {m : Nat} {p : Nat → Bool} (hm : m ≤ 1048576) (h : ∀ i, i < m + 1 → g i = some (p i)) : neededO g m = some (neededP p (m + 1) 0) := by
  unfold neededO
  rw [if_pos ⟨hm, fun i hi => by rw [h i hi]; rfl⟩]
  refine congrArg some (neededP_congr _ _ (fun i _ hi => ?_))
  rw [h i (by omega)]; cases p i <;> rfl
theorem neededO_inv {g : Nat → Option Bool} {m : Nat} {r : Int × Bool} (h : neededO g m = some r) : m ≤ 1048576 ∧ (∀ i, i < m + 1 → ∃ b, g i = some b) ∧ r = neededP (fun i => g i == some true) (m + 1) 0 := by
  unfold neededO at h
  by_cases hx : m ≤ 1048576 ∧ ∀ i, i < m + 1 → (g i).isSome = true
  case neg => rw [if_neg hx] at h; cases h
  rw [if_pos hx] at h
  exact ⟨hx.1, fun i hi => Option.isSome_iff_exists.1 (hx.2 i hi), (Option.some.inj h).symm⟩
/-- What is asked of the closure. -/
def KnownIdx (g : Nat) (lb : Array Value) (n : Nat) (p : Nat → Bool) (w : World) : Prop :=
  ∀ (W : World) (k : Nat), Below w.heap.size w W → k ≤ n → Calls Try.prog g (#[.int .i64 (k : Int)] ++ lb) W fun e w' => ∃ v, e = .returned v ∧ Below W.heap.size W w' ∧ Calls Try.prog 86 #[v] w' fun e' w'' => e' = .returned (.bool (p k)) ∧ Below w'.heap.size w' w''

set_option maxHeartbeats 2000000 in
set_option maxRecDepth 100000 in
theorem needed_c (n : Nat) (hn : n ≤ 1048576) (p : Nat → Bool) (g : Nat) (lb : Array Value) (eg : ∀ args w, (callFunc g args).run Try.prog w = .ok (.enter g args) w) (w : World) (hp : KnownIdx g lb n p w) :
    Calls Try.prog 56 #[.int .i64 (n : Int), .func (.func g) #[] lb] w (fun e w' => e = .returned (.tuple #[.int .i64 (neededP p (n + 1) 0).1, .bool (neededP p (n + 1) 0).2]) ∧ Below w.heap.size w w') := by
  have HB := Aside0.mk (Below.refl w.heap.size w)
  go_enter Try.func56, Try.ntmps56
  go_wp2
  go_loopg [4, 5, 6, 9] (n + 1) (fun gg s4 s5 _ s9 wr => ∃ kk : Nat, kk ≤ n + 1 ∧ n + 1 - kk ≤ gg ∧ s9 = .int .i64 (kk : Int) ∧ s4 = .int .i64 0 ∧ s5 = .bool false ∧ Aside0 (neededP p (n + 1 - kk) kk = neededP p (n + 1) 0) ∧ Aside0 (Below w.heap.size w wr))
  case atStart => exact ⟨0, Nat.zero_le _, by omega, rfl, rfl, rfl, ⟨rfl⟩, HB⟩
  case round =>
    obtain ⟨kk, hkk, hg, rfl, rfl, rfl, HO, BW⟩ := hrel
    by_cases hlt : kk < n + 1
    · have hltz : (kk : Int) < (n : Int) + 1 := by omega
      have hcall := hp wr kk BW.out (by omega)
      have e : n + 1 - kk = (n + 1 - (kk + 1)) + 1 := by omega
      have HO' := HO.out
      rw [e] at HO'
      cases hq : p kk with
      | true =>
        rw [hq] at hcall
        have HQ : ((kk : Int), true) = neededP p (n + 1) 0 := by rw [← HO']; simp only [neededP]; rw [if_pos hq]
        clear hq HO' HO e
        go_wp2_with (first | (go_at_fn g; refine hcall.mono ?_; rintro e w1 ⟨v1, rfl, hb', hak⟩; have HB1 := Aside0.mk (below_step BW.out hb'); clear hb') | (go_at_call 86; refine hak.mono ?_; rintro e w2 ⟨rfl, hb2⟩; have HB2 := Aside0.mk (below_step HB1.out hb2); clear hb2))
        go_ret2
        exact ⟨by rw [← HQ]; rfl, HB2.out⟩
      | false =>
        rw [hq] at hcall
        have HQ : neededP p (n + 1 - (kk + 1)) (kk + 1) = neededP p (n + 1) 0 := by rw [← HO']; simp only [neededP]; rw [if_neg (by rw [hq]; exact Bool.false_ne_true)]
        clear hq HO' HO e
        have HQ' := Aside0.mk HQ
        clear HQ
        go_wp2_with (first | (go_at_fn g; refine hcall.mono ?_; rintro e w1 ⟨v1, rfl, hb', hak⟩; have HB1 := Aside0.mk (below_step BW.out hb'); clear hb') | (go_at_call 86; refine hak.mono ?_; rintro e w2 ⟨rfl, hb2⟩; have HB2 := Aside0.mk (below_step HB1.out hb2); clear hb2))
        go_roundg (gk - 1)
        case measure => omega
        case rel => exact ⟨kk + 1, by omega, by omega, by go_num, rfl, rfl, HQ', HB2⟩
    · have : kk = n + 1 := by omega
      subst this
      have HQ : ((0 : Int), false) = neededP p (n + 1) 0 := by rw [← HO.out, Nat.sub_self]; rfl
      go_wp2
      go_ret2
      exact ⟨by rw [← HQ]; rfl, BW.out⟩
end Go.Proofs.Ytgcpbaipdpchfaa.H
