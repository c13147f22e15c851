-- Written by a program of this workplace (wip/tool) out of the translation. Lean checks it.
import Derived.Test.YtcidfahoajmcmaaPx0
namespace Go.Proofs.Ytcidfahoajmcmaa.P
open Go.RowKit Go.Proofs.YtcidfahoajmcmaaW.PrintWords Go.Proofs.YtcidfahoajmcmaaW.PrintLast Go.Proofs.YtcidfahoajmcmaaW.PrintMore
attribute [local go_sem] max2_int min2_int max_two min_two max_three min_three max_four min_four   -- for this text's walks alone
set_option linter.unusedVariables false
set_option linter.unusedSimpArgs false

theorem eqAU128 (d : Nat) (w : World) (x0 y0 : Int) (x1 y1 : Int) :
    (Op.equalIn (d + 2) 24 (.agg #[.int .u64 x0, .int .u64 x1]) (.agg #[.int .u64 y0, .int .u64 y1])).run Try.prog w = .ok (x0 == y0 && (x1 == y1)) w := by
  refine eqA_of Try.underlying24 (by kernel_rfl) ?_
  refine eqf_cons (by rfl) (by go_simp; rfl) (by go_simp; rfl) (by go_simp) ?_
  exact eqf_last (by rfl) (by go_simp; rfl) (by go_simp; rfl) (by go_simp)
theorem eqALeaf (d : Nat) (w : World) (x0 y0 : Bool) (x1 y1 : ByteArray) (x2 y2 : ByteArray) (x3 y3 : Int) (x4 y4 : Int) :
    (Op.equalIn (d + 3) 26 (.agg #[.bool x0, .string x1, .string x2, .int .u64 x3, .int .u64 x4]) (.agg #[.bool y0, .string y1, .string y2, .int .u64 y3, .int .u64 y4])).run Try.prog w = .ok (x0 == y0 && (x1.toList == y1.toList && (x2.toList == y2.toList && ((x3 == y3 && (x4 == y4)))))) w := by
  refine eqA_of Try.underlying26 (by kernel_rfl) ?_
  refine eqf_cons (by rfl) (by go_simp; rfl) (by go_simp; rfl) (by go_simp) ?_
  refine eqf_cons (by rfl) (by go_simp; rfl) (by go_simp; rfl) (by go_simp) ?_
  refine eqf_cons (by rfl) (by go_simp; rfl) (by go_simp; rfl) (by go_simp) ?_
  exact eqf_last (by rfl) (by go_simp) (by go_simp) (eqAU128 (d + 0) w _ _ _ _)
end Go.Proofs.Ytcidfahoajmcmaa.P
