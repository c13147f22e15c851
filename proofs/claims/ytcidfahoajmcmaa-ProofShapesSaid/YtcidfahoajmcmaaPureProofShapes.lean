-- Hand-written contracts of this workplace, filled for this seat by a program.
import Derived.Test.YtcidfahoajmcmaaPx0
import Derived.Test.YtcidfahoajmcmaaPx5
import Derived.Test.YtcidfahoajmcmaaUShape
namespace Go.Proofs.Ytcidfahoajmcmaa.P
open Go.RowKit Go.Proofs.YtcidfahoajmcmaaW.PrintWords Go.Proofs.YtcidfahoajmcmaaW.PrintLast Go.Proofs.YtcidfahoajmcmaaW.PrintMore
set_option linter.unusedVariables false
set_option linter.unusedSimpArgs false
theorem pure_ProofShapes : ∀ (y0 : Int) (y1 : Int) (y2 : SEntry), (Lit.int .i64 y0).wf = true → (Lit.int .i64 y1).wf = true → wfEntry y2 → ∃ k, paymasterlaw16_ProofShapes.f k y0 y1 y2.f0.f0 y2.f0.f1 y2.f0.f2 y2.f0.f3.f0 y2.f0.f3.f1 y2.f1.f0 y2.f1.f1 = some true := by
  intro a0 a1 e _ _ he
  obtain ⟨_, hp, hl, _⟩ := he
  have hp := wf_u64 hp
  unfold maxLen at hl
  refine Ev.rounds (Ev.bind (longE_ev e hl) ?_)
  cases h : longE e with
  | true => exact Ev.some_ (fun k => by simp)
  | false =>
    refine Ev.congr (fun k => by rw [if_neg (by simp), proofShape_eq]; simp only [Option.bind_some]; rfl) (Ev.bind (refShape_ev a0 a1 e.f1.f0 e.f1.f1 hp.1 hl) ?_)
    exact Ev.some_ (fun k => by simp)

end Go.Proofs.Ytcidfahoajmcmaa.P
