-- Hand-written contracts of this workplace, filled for this seat by a program.
import Derived.Test.YtcidfahoajmcmaaDoorPx0
import Derived.Test.YtcidfahoajmcmaaDoorRd
import Derived.Test.YtcidfahoajmcmaaDoorHLawPieces
namespace Go.Proofs.YtcidfahoajmcmaaDoor.P
open Go.RowKit Go.Proofs.YtcidfahoajmcmaaDoorW.PrintWords Go.Proofs.YtcidfahoajmcmaaDoorW.PrintLast Go.Proofs.YtcidfahoajmcmaaDoorW.PrintMore
set_option linter.unusedVariables false
set_option linter.unusedSimpArgs false
set_option linter.unnecessarySimpa false
theorem pure_ShaPieces : ∀ (y0 : (List ByteArray)) (y1 : (List Bool)), (y0.length ≤ 140737488355328 ∧ ∀ q0 ∈ y0, q0.size ≤ 140737488355328) → (y1.length ≤ 140737488355328 ∧ ∀ q0 ∈ y1, True) → paymasterlaw05_ShaPieces.f y0 y1 = some true := by
  intro l0 l1 h0 h1
  rw [paymasterlaw05_ShaPieces.f, if_pos ⟨h0, h1.1⟩]

end Go.Proofs.YtcidfahoajmcmaaDoor.P
