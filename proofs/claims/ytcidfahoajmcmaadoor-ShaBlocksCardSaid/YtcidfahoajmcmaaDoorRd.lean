-- Written by a program of this workplace (wip/tool/rowgen.py). Lean checks it.
import Derived.Test.YtcidfahoajmcmaaDoorHRow
import Derived.Test.YtcidfahoajmcmaaDoorPn0
namespace Go.Proofs.YtcidfahoajmcmaaDoor.P
open Go.RowKit Go.Proofs.YtcidfahoajmcmaaDoorW.PrintWords Go.Proofs.YtcidfahoajmcmaaDoorW.PrintLast Go.Proofs.YtcidfahoajmcmaaDoorW.PrintMore
set_option linter.unusedVariables false
set_option linter.unusedSimpArgs false

def wfU128 (x : SU128) : Prop := (Lit.int .u64 x.f0).wf = true ∧ (Lit.int .u64 x.f1).wf = true
theorem rdU128 : Rd Tryd.prog 57 kU128 wfU128 :=
  Rd.struct (fun x : SU128 => (x.f0, x.f1)) (fun a => ⟨a.1, a.2⟩) (fun _ => rfl) Tryd.underlying57 (by kernel_rfl)
    (RdF.cons rfl (by kernel_rfl) (Rd.int .u64 Tryd.underlying26) (RdF.one rfl (by kernel_rfl) (Rd.int .u64 Tryd.underlying26))) (fun a h => h)
def wfNode (x : SNode) : Prop := x.f0.size ≤ 140737488355328 ∧ wfU128 x.f1
theorem rdNode : Rd Tryd.prog 59 kNode wfNode :=
  Rd.struct (fun x : SNode => (x.f0, x.f1)) (fun a => ⟨a.1, a.2⟩) (fun _ => rfl) Tryd.underlying59 (by kernel_rfl)
    (RdF.cons rfl (by kernel_rfl) (Rd.string Tryd.underlying9) (RdF.one rfl (by kernel_rfl) rdU128)) (fun a h => h)
end Go.Proofs.YtcidfahoajmcmaaDoor.P
