-- Hand-written contracts of this workplace, filled for this seat by a program.
import Derived.Test.YtcidfahoajmcmaaPx0
import Derived.Test.YtcidfahoajmcmaaRd
import Derived.Test.YtcidfahoajmcmaaHLawSame
namespace Go.Proofs.Ytcidfahoajmcmaa.P
open Go.RowKit Go.Proofs.YtcidfahoajmcmaaW.PrintWords Go.Proofs.YtcidfahoajmcmaaW.PrintLast Go.Proofs.YtcidfahoajmcmaaW.PrintMore
set_option linter.unusedVariables false
set_option linter.unusedSimpArgs false
set_option linter.unnecessarySimpa false
theorem pure_ProofSame : ∀ (y0 : SEntry) (y1 : SEntry) (y2 : Int), wfEntry y0 → wfEntry y1 → (Lit.int .u64 y2).wf = true → paymasterlaw16_ProofSame.f y0.f0.f0 y0.f0.f1 y0.f0.f2 y0.f0.f3.f0 y0.f0.f3.f1 y0.f1.f0 y0.f1.f1 y1.f0.f0 y1.f0.f1 y1.f0.f2 y1.f0.f3.f0 y1.f0.f3.f1 y1.f1.f0 y1.f1.f1 y2 = some true := fun _ _ _ _ _ _ => rfl

end Go.Proofs.Ytcidfahoajmcmaa.P
