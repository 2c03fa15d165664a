/- A memo in a map from small numbers to numbers, told as a list of pairs (the newest first). No condition: plain lemmas. -/
import Derived.Test.YtgcpbaipdpchfaaHFrame
import Derived.Maps.OwnSet
import Derived.Maps.OwnOps
namespace Go.Proofs.Ytgcpbaipdpchfaa.H
open Go Go.RowKit Go.Maps Go.Proofs.YtgcpbaipdpchfaaW.PrintWords Go.Proofs.YtgcpbaipdpchfaaW.PrintLast Go.Proofs.YtgcpbaipdpchfaaW.PrintMore
def look : List (Int × Int) → Int → Option Int
  | [], _ => none
  | p :: r, x => if p.1 = x then some p.2 else look r x
def datum : List (Int × Int) → DataW Unit
  | [] => .map []
  | p :: r => (datum r).put (.int .u16 p.1) (.lit (.int .i64 p.2))
theorem datum_map : ∀ m, IsMap (datum m)
  | [] => isMap_empty
  | _ :: r => (datum_map r).put _ _
theorem look_has (x : Int) : ∀ m, Maps.has (datum m) (.int .u16 x) = (look m x).isSome
  | [] => rfl
  | p :: r => by
    rw [datum, look]
    by_cases h : p.1 = x
    · rw [h, if_pos rfl, has_put_same (datum_map r) (show WideAt.IsKeyLit (.int .u16 x) from trivial)]; rfl
    · rw [if_neg h, has_put_other (fun e => h (by injection e with _ e; exact e.symm)), look_has x r]
theorem look_at (x : Int) : ∀ m, (datum m).atKey (.int .u16 x) (.lit (.int .i64 0)) = .lit (.int .i64 ((look m x).getD 0))
  | [] => rfl
  | p :: r => by
    rw [datum, look]
    by_cases h : p.1 = x
    · rw [h, if_pos rfl, atKey_put_same (datum_map r) (show WideAt.IsKeyLit (.int .u16 x) from trivial)]; rfl
    · rw [if_neg h, atKey_put_other (fun e => h (by injection e with _ e; exact e.symm)), look_at x r]
theorem klaw : Keyed Try.prog 87 := int_keyed Try.underlying87
theorem zeroI (w : World) : (zeroValue 3).run Try.prog w = .ok (.int .i64 0) w := by kernel_rfl
/-- Block g is the memo m. -/
def MemoAt (w : World) (g : Nat) (m : List (Int × Int)) : Prop := w.ownsMap Try.prog 87 (plainElem Try.prog 3) g m.length (datum m)
theorem MemoAt.step {w w1 : World} {g : Nat} {m : List (Int × Int)} (h : MemoAt w g m) (hb : w1.heap[g]? = w.heap[g]?) : MemoAt w1 g m := by
  obtain ⟨es, clock, h1, h2⟩ := h
  exact ⟨es, clock, hb.trans h1, h2⟩
theorem MemoAt.lt {w : World} {g : Nat} {m : List (Int × Int)} (h : MemoAt w g m) : g < w.heap.size := World.ownsMap.lt h
theorem MemoAt.below {w w1 : World} {g : Nat} {m : List (Int × Int)} (h : MemoAt w g m) (hb : Below w.heap.size w w1) : MemoAt w1 g m := h.step (hb.block g h.lt)
theorem MemoAt.made (w : World) : MemoAt (w.alloc (.map #[] 0)) w.heap.size [] := World.ownsMap_made _ _ _ _
theorem Fr.of_grown {g : Nat} {u : Value} {w w1 : World} (hg : w.grownBy w1 (some g)) : Fr g u w w1 := ⟨hg.os, hg.tape, hg.output, hg.size, fun k hk h1 _ => hg.block k hk (fun e => h1 (by injection e))⟩
theorem Fr.below {g : Nat} {u : Value} {w w1 w2 : World} (h : Fr g u w w1) (hb : Below w1.heap.size w1 w2) : Fr g u w w2 := h.trans (.inl rfl) (Fr.of_below hb)
theorem wf16 {x : Int} (h0 : 0 ≤ x) (h1 : x < 65536) : (Lit.int .u16 x).wf = true := by
  have e0 : IntKind.u16.min = 0 := by decide
  have e1 : IntKind.u16.max = 65535 := by decide
  simp [Lit.wf, e0, e1]
  omega
theorem wf64 {x : Int} (h0 : -9223372036854775808 ≤ x) (h1 : x < 9223372036854775808) : (Lit.int .i64 x).wf = true := by
  have e0 : IntKind.i64.min = -9223372036854775808 := by decide
  have e1 : IntKind.i64.max = 9223372036854775807 := by decide
  simp [Lit.wf, e0, e1]
  omega
/-- What a call of left keeps while it walks the rounds: the memo, the pairs, the rounds, its box, what lay there before. -/
structure LSt {α : Type} (kd : Kd α) (e t : Nat) (cells : Array Value) (A : Option Addr) (ps : List α) (AA : Option Addr) (rs : List (List α)) (g gb : Nat) (w W : World) (memo : List (Int × Int)) : Prop where
  hM : MemoAt W g memo
  hP : Kd.F kd W (fun k => k ≠ g) A ps.length ps
  hR : Kd.F (Kd.slice e kd) W (fun k => k ≠ g) AA rs.length rs
  hK : W.heap[gb]? = some (.cells cells t (0, 0))
  ne : gb ≠ g
  hF : Fr g (.slice none 0 0) w W
section
variable {α : Type} {kd : Kd α} {e t : Nat} {cells : Array Value} {A AA : Option Addr} {ps : List α} {rs : List (List α)} {g gb : Nat} {w W W' : World} {memo memo' : List (Int × Int)}
theorem own_nil (k : Nat) : (Value.slice none 0 0).ownBlock ≠ some k := by simp [Value.ownBlock]
theorem LSt.fr (h : LSt kd e t cells A ps AA rs g gb w W memo) (hm : MemoAt W' g memo') (hf : Fr g (.slice none 0 0) W W') : LSt kd e t cells A ps AA rs g gb w W' memo' :=
  ⟨hm, hf.F h.hP (fun k hk => ⟨hk, own_nil k⟩), hf.F h.hR (fun k hk => ⟨hk, own_nil k⟩), (hf.block gb (blk_lt h.hK) h.ne (own_nil gb)).trans h.hK, h.ne, h.hF.trans (.inl rfl) hf⟩
theorem LSt.below (h : LSt kd e t cells A ps AA rs g gb w W memo) (hb : Below W.heap.size W W') : LSt kd e t cells A ps AA rs g gb w W' memo := h.fr (h.hM.below hb) (Fr.of_below hb)
end
set_option maxRecDepth 100000 in
/-- impl.spreadOf. -/
theorem spreadOf_c (n : Int) (A : Option Addr) (len c : Nat) (w : World) :
    Calls Try.prog 69 #[.int .i64 n, .slice A len c] w fun e w' => ∃ g, e = .returned (.agg #[.int .i64 n, .slice A len c, .map (some g)]) ∧ w.heap.size ≤ g ∧ MemoAt w' g [] ∧ Below w.heap.size w w' := by
  have hmm := @run_makeMap Try.prog
  have hu := Try.underlying84
  go_enter Try.func69, Try.ntmps69
  go_wp2
  have hm := MemoAt.made (w.alloc (.cells #[.int .i64 n, .slice A len c, .map (some (w.heap.size + 1))] 84))
  rw [World.size_alloc] at hm
  refine bodyPost_ret (results_single rfl (.cell w.heap.size 84 _ (0, 0) _ rfl (blk_alloc (blk_new w _) _) hu rfl (by kernel_rfl) .nil)) rfl ⟨w.heap.size + 1, rfl, by omega, hm, ?_⟩
  repeat (first | exact Below.refl _ _ | apply below_alloc)
end Go.Proofs.Ytgcpbaipdpchfaa.H
