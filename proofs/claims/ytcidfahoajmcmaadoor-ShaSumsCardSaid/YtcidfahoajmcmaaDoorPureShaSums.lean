-- Hand-written contracts of this workplace, filled for this seat by a program.
import Derived.Test.YtcidfahoajmcmaaDoorPx0
import Derived.Test.YtcidfahoajmcmaaDoorPy2
import Derived.Test.YtcidfahoajmcmaaDoorRd
import Derived.Test.YtcidfahoajmcmaaDoorUHex
namespace Go.Proofs.YtcidfahoajmcmaaDoor.P
open Go.RowKit Go.Proofs.YtcidfahoajmcmaaDoorW.PrintWords Go.Proofs.YtcidfahoajmcmaaDoorW.PrintLast Go.Proofs.YtcidfahoajmcmaaDoorW.PrintMore
set_option linter.unusedVariables false
set_option linter.unusedSimpArgs false
set_option linter.unnecessarySimpa false
theorem pure_ShaSums : ∀ (y0 : ByteArray) (y1 : Int), y0.size ≤ maxLen → (Lit.int .u64 y1).wf = true → ∃ k, paymasterlaw05_ShaSums.f k y0 y1 = some true := by
  intro s n _ hn
  obtain ⟨n0, n1⟩ := wf_u64 hn
  refine Ev.rounds ?_
  unfold paymasterlaw05_ShaSums.f
  by_cases hs : (s.size : Int) > 2000
  · exact Ev.congr (fun k => by rw [if_pos hs]) (Ev.now true)
  have h2 : s.size ≤ 2000 := by omega
  have ew : IntKind.u64.wrap (s.size : Int) = (s.size : Int) := wrapu64_id (by omega) (by omega)
  have e1 : sha_Sum.f s = some (refSumI s) := by rw [sha_Sum.f, if_pos (by omega), sumI_ref s (by omega)]
  have e2 : ref05_Sum.f s = some (refSumI s) := by rw [ref05_Sum.f, if_pos (by omega)]
  have e3 : sha_Padding.f n = some (padI n) := by rw [sha_Padding.f, if_pos ⟨n0, n1⟩]
  have e4 : sha_Padding.f (s.size : Int) = some (padI (s.size : Int)) := by rw [sha_Padding.f, if_pos ⟨by omega, by omega⟩]
  have e5 : sha_Hex.f s = some (hexI s) := by rw [sha_Hex.f, if_pos (by omega)]
  refine Ev.congr (fun k => by rw [if_neg hs, e1, e2, Option.bind_some, Option.bind_some, if_pos rfl, e3, Option.bind_some]) ?_
  refine Ev.bind (refPad n n0 n1) ?_
  refine Ev.congr (fun k => by rw [if_pos rfl, ew, e4, Option.bind_some]) ?_
  refine Ev.bind (refPad (s.size : Int) (by omega) (by omega)) ?_
  refine Ev.congr (fun k => by rw [if_pos rfl, e5, Option.bind_some]) ?_
  refine Ev.bind (refHex s (by omega)) ?_
  exact Ev.some_ (fun k => by simp)

end Go.Proofs.YtcidfahoajmcmaaDoor.P
