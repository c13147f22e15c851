-- Hand-written contracts of this workplace, filled for this seat by a program.
import Derived.Test.YtcidfahoajmcmaaPx0
namespace Go.Proofs.Ytcidfahoajmcmaa.P
open Go.RowKit Go.Proofs.YtcidfahoajmcmaaW.PrintWords Go.Proofs.YtcidfahoajmcmaaW.PrintLast Go.Proofs.YtcidfahoajmcmaaW.PrintMore
set_option linter.unusedVariables false
set_option linter.unusedSimpArgs false
set_option linter.unnecessarySimpa false
/-! Nobody's tree: nil, or one that nobody made. -/
theorem treeNone_nil.calls (w : World) : Calls Try.prog 38 #[.pointer none] w fun e w' => e = .returned (.bool true) ∧ w = w' := by
  go_enter Try.func38, Try.ntmps38
  go_wp2_with fail
  go_ret
  exact ⟨rfl, rfl⟩
theorem treeNone_bare.calls (g : Nat) (w : World) (h : w.cell? ⟨g, 2, none⟩ = some (.slice none 0 0)) : Calls Try.prog 38 #[.pointer (some ⟨g, 0, none⟩)] w fun e w' => e = .returned (.bool true) ∧ w = w' := by
  have hu := Try.underlying43
  go_enter Try.func38, Try.ntmps38
  go_wp2_with fail
  go_ret
  exact ⟨rfl, rfl⟩
theorem treeWidth_nil.calls (w : World) : Calls Try.prog 23 #[.pointer none] w fun e w' => e = .returned (.int .i64 0) ∧ w = w' := by
  go_enter Try.func23, Try.ntmps23
  go_wp2_with fail
  refine (treeNone_nil.calls _).mono ?_
  rintro e w1 ⟨rfl, rfl⟩
  go_wp2
  go_ret
  exact ⟨rfl, rfl⟩
theorem treeWidth_bare.calls (g : Nat) (w : World) (h : w.cell? ⟨g, 2, none⟩ = some (.slice none 0 0)) : Calls Try.prog 23 #[.pointer (some ⟨g, 0, none⟩)] w fun e w' => e = .returned (.int .i64 0) ∧ w = w' := by
  go_enter Try.func23, Try.ntmps23
  go_wp2_with fail
  refine (treeNone_bare.calls g _ h).mono ?_
  rintro e w1 ⟨rfl, rfl⟩
  go_wp2
  go_ret
  exact ⟨rfl, rfl⟩
theorem treeLeaves_nil.calls (w : World) : Calls Try.prog 27 #[.pointer none] w fun e w' => e = .returned (.slice none 0 0) ∧ w = w' := by
  go_enter Try.func27, Try.ntmps27
  go_wp2_with fail
  refine (treeNone_nil.calls _).mono ?_
  rintro e w1 ⟨rfl, rfl⟩
  go_wp2
  go_ret
  exact ⟨rfl, rfl⟩
abbrev entry0V : Value := .agg #[.bool false, .string ByteArray.empty, .string ByteArray.empty, .int .u64 0, .int .u64 0, .int .u64 0, .slice none 0 0]
theorem proofOf_nil.calls (p : Int) (w : World) : Calls Try.prog 9 #[.pointer none, .int .u64 p] w fun e w' => e = .returned (.tuple #[entry0V, .int .i64 1]) ∧ Below w.heap.size w w' := by
  have hu := Try.underlying31
  go_enter Try.func9, Try.ntmps9
  go_wp2_with fail
  refine (treeWidth_nil.calls _).mono ?_
  rintro e w1 ⟨rfl, rfl⟩
  go_wp2
  refine bodyPost_ret (v := .tuple #[entry0V, .int .i64 1]) ?_ rfl ⟨rfl, ?_⟩
  · simp [results, Try.results9, go_sem, hu]
    rfl
  · repeat (with_reducible first | exact Below.refl _ _ | apply below_alloc | refine below_set ?_ (Nat.le_refl _))
theorem proofOf_bare.calls (g : Nat) (p : Int) (w : World) (h : w.cell? ⟨g, 2, none⟩ = some (.slice none 0 0)) : Calls Try.prog 9 #[.pointer (some ⟨g, 0, none⟩), .int .u64 p] w fun e w' => e = .returned (.tuple #[entry0V, .int .i64 1]) ∧ Below w.heap.size w w' := by
  have hu := Try.underlying31
  have HC := Aside0.mk h
  have hlt : g < w.heap.size := World.block_lt_of_cell? _ _ h
  have hne : g ≠ w.heap.size := Nat.ne_of_lt hlt
  clear h
  go_enter Try.func9, Try.ntmps9
  go_wp2_with fail
  refine (treeWidth_bare.calls g _ ?hc).mono ?_
  case hc => exact (World.cell?_alloc_lt _ _ _ hlt).trans HC.out
  rintro e w1 ⟨rfl, rfl⟩
  go_wp2
  refine bodyPost_ret (v := .tuple #[entry0V, .int .i64 1]) ?_ rfl ⟨rfl, ?_⟩
  · simp [results, Try.results9, go_sem, hu]
    rfl
  · repeat (with_reducible first | exact Below.refl _ _ | apply below_alloc | refine below_set ?_ (Nat.le_refl _))
theorem proofAll_nil.calls (w : World) : Calls Try.prog 11 #[.pointer none] w fun e w' => e = .returned (.slice none 0 0) ∧ w = w' := by
  go_enter Try.func11, Try.ntmps11
  go_wp2_with fail
  refine (treeLeaves_nil.calls _).mono ?_
  rintro e w1 ⟨rfl, rfl⟩
  go_wp2_with fail
  refine wp_loop_rounds 1 ?_
  rw [rounds_succ]
  go_wp2
  go_ret
  exact ⟨rfl, rfl⟩

end Go.Proofs.Ytcidfahoajmcmaa.P
