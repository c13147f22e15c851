-- Hand-written contracts of this workplace, filled for this seat by a program.
import Derived.Test.YtcidfahoajmcmaaDoorPx0
import Derived.Test.YtcidfahoajmcmaaDoorPn11
import Derived.Test.YtcidfahoajmcmaaDoorUFind
import Derived.Test.YtcidfahoajmcmaaDoorRd
namespace Go.Proofs.YtcidfahoajmcmaaDoor.P
open Go.RowKit Go.Proofs.YtcidfahoajmcmaaDoorW.PrintWords Go.Proofs.YtcidfahoajmcmaaDoorW.PrintLast Go.Proofs.YtcidfahoajmcmaaDoorW.PrintMore
set_option linter.unusedVariables false
set_option linter.unusedSimpArgs false
set_option linter.unnecessarySimpa false
theorem pure_CollideFinds : ∀ (y0 : Int) (y1 : (List ByteArray)), (Lit.int .i64 y0).wf = true → (y1.length ≤ 140737488355328 ∧ ∀ q0 ∈ y1, q0.size ≤ 140737488355328) → ∃ k, paymasterlaw19_CollideFinds.f k y0 y1 = some true := by
  intro a l _ _
  refine Ev.rounds (Ev.bind (longTexts_ev l) ?_)
  cases hb : longT l with
  | true => exact Ev.some_ (fun k => by simp)
  | false =>
    simp only [longT, Bool.or_eq_false_iff, decide_eq_false_iff_not, List.any_eq_false, decide_eq_true_eq] at hb
    have hl : l.length < 1000000000 := by omega
    have hx : ∀ x ∈ l, x.size ≤ 100000000 := fun x hx => by have := hb.2 x hx; omega
    have e : collide_Find.f a l = some (findI a l) := by rw [collide_Find.f, if_pos ⟨hl, hx⟩]
    refine Ev.congr (fun k => by rw [if_neg (by simp), e]; simp only [Option.bind_some]; rfl) (Ev.bind (refFind_ev a l hl hx) ?_)
    exact Ev.some_ (fun k => by simp)

end Go.Proofs.YtcidfahoajmcmaaDoor.P
