-- Written by a program of this workplace (wip/tool/rowgen.py). Lean checks it.
import Derived.Test.YtcidfahoajmcmaaDoorHRow
namespace Go.Proofs.YtcidfahoajmcmaaDoor.P
open Go.RowKit Go.Proofs.YtcidfahoajmcmaaDoorW.PrintWords Go.Proofs.YtcidfahoajmcmaaDoorW.PrintLast Go.Proofs.YtcidfahoajmcmaaDoorW.PrintMore
set_option linter.unusedVariables false
set_option linter.unusedSimpArgs false

end Go.Proofs.YtcidfahoajmcmaaDoor.P
