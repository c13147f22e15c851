-- Hand-written contracts of this workplace, filled for this seat by a program.
import Derived.Test.YtcidfahoajmcmaaDoorPx0
import Derived.Test.YtcidfahoajmcmaaDoorPx1
namespace Go.Proofs.YtcidfahoajmcmaaDoor.P
open Go.RowKit Go.Proofs.YtcidfahoajmcmaaDoorW.PrintWords Go.Proofs.YtcidfahoajmcmaaDoorW.PrintLast Go.Proofs.YtcidfahoajmcmaaDoorW.PrintMore
set_option linter.unusedVariables false
set_option linter.unusedSimpArgs false
set_option linter.unnecessarySimpa false

/-- A word turned right. -/
def rotI (x n : Int) : Int := Go.bits .or .u32 (shl .u32 x (32 - n)) (shr .u32 x n)
theorem and31_all : ∀ n ∈ List.range 32, 1 ≤ n → Go.bits .and .u64 (IntKind.u64.wrap (wrap64 (-(n : Int)))) 31 = 32 - (n : Int) ∧ IntKind.u64.wrap (32 - (32 - (n : Int))) = (n : Int) := by decide +kernel
theorem right_of (x : Int) (n : Nat) (h1 : 1 ≤ n) (h2 : n ≤ 31) : block_right.f x (n : Int) = some (rotI x n) := by
  obtain ⟨e1, e2⟩ := and31_all n (List.mem_range.2 (by omega)) h1
  unfold block_right.f bits_RotateLeft32.f rotI
  rw [e1, e2, if_pos (by omega), if_pos (by omega)]
  rfl
theorem rightK (x : Int) (n : Nat) (h1 : 1 ≤ n) (h2 : n ≤ 31) (w : World) : Calls Tryd.prog 60 #[.int .u32 x, .int .i64 n] w fun e w' => e = .returned (.int .u32 (rotI x n)) ∧ Drawn0 w w' :=
  block_right.calls x n _ w (right_of x n h1 h2)
def partsI (e f g a b c : Int) : Int × Int :=
  (((Go.bits .xor .u32 (Go.bits .xor .u32 (rotI e 6) (rotI e 11)) (rotI e 25)) + Go.bits .xor .u32 (Go.bits .and .u32 e f) (Go.bits .and .u32 (Go.bits .xor .u32 IntKind.u32.max e) g)) % 4294967296,
   ((Go.bits .xor .u32 (Go.bits .xor .u32 (rotI a 2) (rotI a 13)) (rotI a 22)) + Go.bits .xor .u32 (Go.bits .xor .u32 (Go.bits .and .u32 a b) (Go.bits .and .u32 a c)) (Go.bits .and .u32 b c)) % 4294967296)
set_option maxRecDepth 100000 in
set_option maxHeartbeats 1000000 in
theorem parts.calls (e f g a b c : Int) (w : World) : Calls Tryd.prog 61 #[.int .u32 e, .int .u32 f, .int .u32 g, .int .u32 a, .int .u32 b, .int .u32 c] w fun en w' => en = .returned (.tuple #[.int .u32 (partsI e f g a b c).1, .int .u32 (partsI e f g a b c).2]) ∧ Drawn0 w w' := by
  go_enter Tryd.func61, Tryd.ntmps61
  go_wp2_with fail
  refine (rightK e 6 (by decide) (by decide) _).mono ?_
  rintro en w1 ⟨rfl, ⟨n1, rfl⟩⟩
  go_wp2_with fail
  refine (rightK e 11 (by decide) (by decide) _).mono ?_
  rintro en w1 ⟨rfl, ⟨n2, rfl⟩⟩
  go_wp2_with fail
  refine (rightK e 25 (by decide) (by decide) _).mono ?_
  rintro en w1 ⟨rfl, ⟨n3, rfl⟩⟩
  go_wp2_with fail
  refine (rightK a 2 (by decide) (by decide) _).mono ?_
  rintro en w1 ⟨rfl, ⟨n4, rfl⟩⟩
  go_wp2_with fail
  refine (rightK a 13 (by decide) (by decide) _).mono ?_
  rintro en w1 ⟨rfl, ⟨n5, rfl⟩⟩
  go_wp2_with fail
  refine (rightK a 22 (by decide) (by decide) _).mono ?_
  rintro en w1 ⟨rfl, ⟨n6, rfl⟩⟩
  go_wp2
  go_ret2
  exact ⟨rfl, ⟨_, rfl⟩⟩

end Go.Proofs.YtcidfahoajmcmaaDoor.P
