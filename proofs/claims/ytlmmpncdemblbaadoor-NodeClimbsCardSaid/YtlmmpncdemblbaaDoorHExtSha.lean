-- Hand-written contracts of this workplace, filled for this seat by a program.
import Derived.Test.YtlmmpncdemblbaaDoorPx0
import Derived.Test.YtlmmpncdemblbaaDoorHSha
import Derived.Test.YtlmmpncdemblbaaDoorHRefSum
namespace Go.Proofs.YtlmmpncdemblbaaDoor.P
open Go.RowKit Go.Proofs.YtlmmpncdemblbaaDoorW.PrintWords Go.Proofs.YtlmmpncdemblbaaDoorW.PrintLast Go.Proofs.YtlmmpncdemblbaaDoorW.PrintMore
set_option linter.unusedVariables false
set_option linter.unusedSimpArgs false
set_option linter.unnecessarySimpa false

/-! The contracts of layer 5 in the form that the print takes. -/
def sha_Sum.f (a0 : ByteArray) : Option ByteArray := if a0.size ≤ 4611686018427387904 then some (sumI a0) else none
theorem sha_Sum.calls (a0 : ByteArray) (r : ByteArray) (w : World) (hK : Laid w) (h : sha_Sum.f a0 = some r) :
    Calls Tryd.prog 75 #[.string a0] w fun e w' => e = .returned (.string r) ∧ Below w.heap.size w w' := by
  unfold sha_Sum.f at h
  split at h
  · cases h; exact sum.calls a0 w hK (by assumption)
  · cases h
def sha_Padding.f (a0 : Int) : Option ByteArray := if 0 ≤ a0 ∧ a0 < 18446744073709551616 then some (padI a0) else none
theorem sha_Padding.calls (a0 : Int) (r : ByteArray) (w : World) (h : sha_Padding.f a0 = some r) :
    Calls Tryd.prog 111 #[.int .u64 a0] w fun e w' => e = .returned (.string r) ∧ Below w.heap.size w w' := by
  unfold sha_Padding.f at h
  split at h
  · rename_i hh; cases h; exact padding.calls a0 hh.1 hh.2 w
  · cases h
def ref05_Sum.f (a0 : ByteArray) : Option ByteArray := if a0.size ≤ 1000000000 then some (refSumI a0) else none
theorem ref05_Sum.calls (a0 : ByteArray) (r : ByteArray) (w : World) (h : ref05_Sum.f a0 = some r) :
    Calls Tryd.prog 80 #[.string a0] w fun e w' => e = .returned (.string r) ∧ Below w.heap.size w w' := by
  unfold ref05_Sum.f at h
  split at h
  · cases h; exact refsum.calls a0 w (by assumption)
  · cases h

end Go.Proofs.YtlmmpncdemblbaaDoor.P
