-- Hand-written contracts of this workplace, filled for this seat by a program.
import Derived.Test.YtfcodmdckcihmaaDoorPx0
import Derived.Test.YtfcodmdckcihmaaDoorHParts
namespace Go.Proofs.YtfcodmdckcihmaaDoor.P
open Go.RowKit Go.Proofs.YtfcodmdckcihmaaDoorW.PrintWords Go.Proofs.YtfcodmdckcihmaaDoorW.PrintLast Go.Proofs.YtfcodmdckcihmaaDoorW.PrintMore
set_option linter.unusedVariables false
set_option linter.unusedSimpArgs false
set_option linter.unnecessarySimpa false

theorem or_comm (x y : Int) : bits .or .u32 x y = bits .or .u32 y x := by
  simp only [bits]
  rw [BitVec.or_comm]
theorem xor_comm (x y : Int) : bits .xor .u32 x y = bits .xor .u32 y x := by
  simp only [bits]
  rw [BitVec.xor_comm]
theorem rot_or (x : Int) (n : Nat) (h : n ≤ 31) : rotI x n = bits .or .u32 (x * 2 ^ (32 - n) % 4294967296) (x / 2 ^ n) := by
  have e1 : min ((32 : Int) - (n : Int)).toNat 32 = 32 - n := by omega
  have e2 : min ((n : Int)).toNat 32 = n := by omega
  simp only [rotI, shl, shr]
  rw [show IntKind.u32.bits = 32 from rfl, e1, e2, IntKind.wrap_u32]
theorem rightR (x : Int) (n : Nat) (h1 : 1 ≤ n) (h2 : n ≤ 31) (w : World) : Calls Tryd.prog 183 #[.int .u32 x, .int .u64 n] w fun e w' => e = .returned (.int .u32 (rotI x n)) ∧ w' = w := by
  have e1 : IntKind.u64.wrap (32 - (n : Int)) = 32 - (n : Int) := by rw [IntKind.wrap_u64]; omega
  go_enter Tryd.func183, Tryd.ntmps183
  go_wp2_with fail
  go_ret
  refine ⟨?_, rfl⟩
  rw [rot_or x n h2, or_comm]
  rfl

end Go.Proofs.YtfcodmdckcihmaaDoor.P
