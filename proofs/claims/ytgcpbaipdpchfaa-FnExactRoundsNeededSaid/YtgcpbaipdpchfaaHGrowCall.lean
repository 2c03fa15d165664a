/- slices.Grow of the nil slice: a row of one's own without elements, with room. No condition beside the number's. -/
import Derived.Test.YtgcpbaipdpchfaaHBase
import Derived.Lib.AppendZeros
namespace Go.Proofs.Ytgcpbaipdpchfaa.H
open Go.RowKit Go.Proofs.YtgcpbaipdpchfaaW.PrintWords Go.Proofs.YtgcpbaipdpchfaaW.PrintLast Go.Proofs.YtgcpbaipdpchfaaW.PrintMore

theorem info_Call : (Try.prog.info? 54).map (fun i => (i.zero, i.size, i.bytes)) = some (some (.agg #[.int .i64 0, .int .i64 0]), 2, 16) := by kernel_rfl
set_option maxHeartbeats 2000000 in
set_option maxRecDepth 100000 in
theorem grow_Call {α : Type} (d : Kd α) (hd : d.sz = 2) (n : Int) (h0 : 0 ≤ n) (h1 : n ≤ 8796093022208) (w : World) :
    Calls Try.prog 89 #[.slice none 0 0, .int .i64 n] w fun e w' => ∃ v : Value, e = .returned v ∧ Kd.R d 54 w' w.heap.size (fun _ => True) v ([] : List α) ∧ Below w.heap.size w w' := by
  have e0 : (n < 0) = False := eq_false (by omega)
  have e1 : IntKind.i64.wrap (n - 0) = n := by rw [IntKind.wrap_i64]; omega
  have e2 : IntKind.i64.wrap n = n := by rw [IntKind.wrap_i64]; omega
  by_cases hp : n = 0
  · subst hp
    go_enter Try.func89, Try.ntmps89
    go_wp2
    go_ret
    exact ⟨_, rfl, Kd.R_nil _ _ _ _ _, Below.refl _ _⟩
  · obtain ⟨i0, hi, hz0, hz1, hz2⟩ := info_parts info_Call
    obtain ⟨m, rfl⟩ := Int.eq_ofNat_of_zero_le h0
    have happ := Lib.run_append_nil_zeros (P := Try.prog) w 31 3 31 54 i0 (.agg #[.int .i64 0, .int .i64 0]) .i64 .i64 Try.underlying31 (by kernel_rfl) hi hz0 m (by omega) (by rw [hz1]; decide) (by omega) (by rw [hz2]; omega)
    obtain ⟨cap, hcap⟩ : ∃ c, c = grownCap w m 0 54 := ⟨_, rfl⟩
    have hge : m ≤ cap := by rw [hcap]; exact grownCap_ge w _ 0 54
    have hle : cap ≤ maxLen := by rw [hcap]; exact grownCap_le_maxLen w _ 0 54 (by unfold maxLen; omega)
    rw [← hcap] at happ
    obtain ⟨Z, hZ⟩ : ∃ Z, Z = Builtin.zeroCells (Value.agg #[.int .i64 0, .int .i64 0]).cells m ++ Builtin.zeroCells (Value.agg #[.int .i64 0, .int .i64 0]).cells (cap - m) := ⟨_, rfl⟩
    have hZs : Z.size = cap * d.sz := by rw [hd]; rw [hZ]; simp [size_zeroCells, Value.cells]; omega
    rw [← hZ] at happ
    have e3 : ((m : Int) > 0) = True := eq_true (by omega)
    have e4 : (0 < m) = True := eq_true (by omega)
    have e5 : (m = 0) = False := eq_false (by omega)
    clear hZ hcap h0 h1 hp
    have HS := Aside0.mk hZs
    have HL := Aside0.mk hle
    clear hZs hle hge
    go_enter Try.func89, Try.ntmps89
    go_wp2_with (at_builtin; refine Lib.wpList_append_run _ rfl _ _ _ _ rfl _ _ rfl rfl _ _ happ ?_)
    go_ret
    refine ⟨_, rfl, ?_, ?_⟩
    · refine ⟨fun _ _ => trivial, [], ⟨by simp, .inr ⟨w.heap.size, cap, Z, rfl, Nat.le_refl _, ?_, Nat.zero_le _, HL.out, HS.out, by simp⟩⟩, Reps.none _ _⟩
      first | exact heap_alloc_new w.drew _ | exact heap_alloc_new w _ | simp
    · first | exact below_alloc (below_drew1 (Below.refl _ _)) _ | exact below_drew1 (below_alloc (Below.refl _ _) _)
end Go.Proofs.Ytgcpbaipdpchfaa.H
