-- Hand-written contracts of this workplace, filled for this seat by a program.
import Derived.Test.YtcidfahoajmcmaaDoorPx0
import Derived.Test.YtcidfahoajmcmaaDoorPn0
import Derived.Test.YtcidfahoajmcmaaDoorHLawJoins
import Derived.Test.YtcidfahoajmcmaaDoorRd
namespace Go.Proofs.YtcidfahoajmcmaaDoor.P
open Go.RowKit Go.Proofs.YtcidfahoajmcmaaDoorW.PrintWords Go.Proofs.YtcidfahoajmcmaaDoorW.PrintLast Go.Proofs.YtcidfahoajmcmaaDoorW.PrintMore
set_option linter.unusedVariables false
set_option linter.unusedSimpArgs false
set_option linter.unnecessarySimpa false
theorem pure_NodeJoins : ∀ (y0 : Int) (y1 : SNode) (y2 : SNode), (Lit.int .i64 y0).wf = true → wfNode y1 → wfNode y2 → paymasterlaw14_NodeJoins.f y0 y1.f0 y1.f1.f0 y1.f1.f1 y2.f0 y2.f1.f0 y2.f1.f1 = some true := by
  intro w l r _ hl hr
  rw [paymasterlaw14_NodeJoins.f, if_pos ⟨⟨wf_u64 hl.2.1, wf_u64 hl.2.2⟩, wf_u64 hr.2.1, wf_u64 hr.2.2⟩]

end Go.Proofs.YtcidfahoajmcmaaDoor.P
