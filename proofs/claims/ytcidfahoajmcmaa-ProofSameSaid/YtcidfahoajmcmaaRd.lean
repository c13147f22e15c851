-- Written by a program of this workplace (wip/tool/rowgen.py). Lean checks it.
import Derived.Test.YtcidfahoajmcmaaHRow
namespace Go.Proofs.Ytcidfahoajmcmaa.P
open Go.RowKit Go.Proofs.YtcidfahoajmcmaaW.PrintWords Go.Proofs.YtcidfahoajmcmaaW.PrintLast Go.Proofs.YtcidfahoajmcmaaW.PrintMore
set_option linter.unusedVariables false
set_option linter.unusedSimpArgs false

def wfU128 (x : SU128) : Prop := (Lit.int .u64 x.f0).wf = true ∧ (Lit.int .u64 x.f1).wf = true
theorem rdU128 : Rd Try.prog 24 kU128 wfU128 :=
  Rd.struct (fun x : SU128 => (x.f0, x.f1)) (fun a => ⟨a.1, a.2⟩) (fun _ => rfl) Try.underlying24 (by kernel_rfl)
    (RdF.cons rfl (by kernel_rfl) (Rd.int .u64 Try.underlying22) (RdF.one rfl (by kernel_rfl) (Rd.int .u64 Try.underlying22))) (fun a h => h)
def wfLeaf (x : SLeaf) : Prop := True ∧ x.f1.size ≤ 140737488355328 ∧ x.f2.size ≤ 140737488355328 ∧ wfU128 x.f3
theorem rdLeaf : Rd Try.prog 26 kLeaf wfLeaf :=
  Rd.struct (fun x : SLeaf => (x.f0, x.f1, x.f2, x.f3)) (fun a => ⟨a.1, a.2.1, a.2.2.1, a.2.2.2⟩) (fun _ => rfl) Try.underlying26 (by kernel_rfl)
    (RdF.cons rfl (by kernel_rfl) (Rd.bool Try.underlying4) (RdF.cons rfl (by kernel_rfl) (Rd.string Try.underlying9) (RdF.cons rfl (by kernel_rfl) (Rd.string Try.underlying9) (RdF.one rfl (by kernel_rfl) rdU128)))) (fun a h => h)
def wfNode (x : SNode) : Prop := x.f0.size ≤ 140737488355328 ∧ wfU128 x.f1
theorem rdNode : Rd Try.prog 61 kNode wfNode :=
  Rd.struct (fun x : SNode => (x.f0, x.f1)) (fun a => ⟨a.1, a.2⟩) (fun _ => rfl) Try.underlying61 (by kernel_rfl)
    (RdF.cons rfl (by kernel_rfl) (Rd.string Try.underlying9) (RdF.one rfl (by kernel_rfl) rdU128)) (fun a h => h)
def wfProof (x : SProof) : Prop := (Lit.int .u64 x.f0).wf = true ∧ (x.f1.length ≤ 140737488355328 ∧ ∀ q0 ∈ x.f1, wfNode q0)
theorem rdProof : Rd Try.prog 29 kProof wfProof :=
  Rd.struct (fun x : SProof => (x.f0, x.f1)) (fun a => ⟨a.1, a.2⟩) (fun _ => rfl) Try.underlying29 (by kernel_rfl)
    (RdF.cons rfl (by kernel_rfl) (Rd.int .u64 Try.underlying22) (RdF.one rfl (by kernel_rfl) (Rd.slice Try.underlying27 (by kernel_rfl) (of_decide_eq_true (by kernel_rfl)) rdNode))) (fun a h => h)
def wfEntry (x : SEntry) : Prop := wfLeaf x.f0 ∧ wfProof x.f1
theorem rdEntry : Rd Try.prog 31 kEntry wfEntry :=
  Rd.struct (fun x : SEntry => (x.f0, x.f1)) (fun a => ⟨a.1, a.2⟩) (fun _ => rfl) Try.underlying31 (by kernel_rfl)
    (RdF.cons rfl (by kernel_rfl) rdLeaf (RdF.one rfl (by kernel_rfl) rdProof)) (fun a h => h)
end Go.Proofs.Ytcidfahoajmcmaa.P
