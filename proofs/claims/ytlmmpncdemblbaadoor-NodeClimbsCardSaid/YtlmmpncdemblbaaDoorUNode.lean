-- Hand-written contracts of this workplace, filled for this seat by a program.
import Derived.Test.YtlmmpncdemblbaaDoorPx0
import Derived.Test.YtlmmpncdemblbaaDoorPn0
import Derived.Test.YtlmmpncdemblbaaDoorPn2
import Derived.Test.YtlmmpncdemblbaaDoorPn5
import Derived.Test.YtlmmpncdemblbaaDoorUBase
namespace Go.Proofs.YtlmmpncdemblbaaDoor.P
open Go.RowKit Go.Proofs.YtlmmpncdemblbaaDoorW.PrintWords Go.Proofs.YtlmmpncdemblbaaDoorW.PrintLast Go.Proofs.YtlmmpncdemblbaaDoorW.PrintMore
set_option linter.unusedVariables false
set_option linter.unusedSimpArgs false
set_option linter.unnecessarySimpa false

/-! Nodes: of a width, not too great. -/
def nodeOf (w : Int) (n : SNode) : Bool := decide (1 ≤ w) && (decide (w ≤ 32) && ((n.f0.size : Int) == w))
theorem node_Of_eq (w : Int) (n : SNode) : node_Of.f w n.f0 n.f1.f0 n.f1.f1 = some (nodeOf w n) := by
  unfold node_Of.f nodeOf
  by_cases h1 : w ≥ 1
  · by_cases h2 : w ≤ 32
    · rw [if_pos h1, if_pos h2]
      have h1' : 1 ≤ w := h1
      simp [h1', h2]
    · rw [if_pos h1, if_neg h2]; simp [h2]
  · rw [if_neg h1]
    have h1' : ¬ 1 ≤ w := h1
    simp [h1']
theorem ref14Of_eq (w : Int) (n : SNode) : paymasterref14_Of.f w n.f0 n.f1.f0 n.f1.f1 = some (nodeOf w n) := by
  rw [← node_Of_eq]; rfl
theorem rdNode_nat (l : List SNode) (i : Nat) (h : i < l.length) : rd_TNode l (i : Int) = l[i] := by simp [rd_TNode, h]

theorem great14_loop (l : List SNode) (hl : l.length ≤ 9223372036854775807) : ∀ d i : Nat, i + d = l.length → Ev (fun k => paymasterlaw14_Great.l0 k l (i : Int)) ((l.drop i).any fun n => decide (60 < n.f0.size)) := by
  intro d
  induction d with
  | zero =>
    intro i hi
    refine Ev.step (f := fun _ => some false) (fun k => ?_) (ev_eq (Ev.now false) ?_)
    · simp only [paymasterlaw14_Great.l0]; rw [if_neg (by omega)]
    · rw [List.drop_of_length_le (by omega)]; rfl
  | succ d ih =>
    intro i hi
    have hlt : i < l.length := by omega
    rw [any_drop_succ _ l i hlt]
    by_cases hb : 60 < l[i].f0.size
    · refine Ev.step (f := fun _ => some true) (fun k => ?_) (ev_eq (Ev.now true) (by simp [hb]))
      simp only [paymasterlaw14_Great.l0]; rw [if_pos (by omega), if_pos (by omega), rdNode_nat l i hlt, if_pos (by omega)]
    · refine Ev.step (f := fun k => paymasterlaw14_Great.l0 k l ((i + 1 : Nat) : Int)) (fun k => ?_) (ev_eq (ih (i + 1) (by omega)) (by simp [hb]))
      simp only [paymasterlaw14_Great.l0]; rw [if_pos (by omega), if_pos (by omega), rdNode_nat l i hlt, if_neg (by omega), wrap64_id (by omega) (by omega)]; rfl
/-- Are nodes too many, or too great, to be gone through? -/
def greatN (l : List SNode) : Bool := decide (300 < l.length) || l.any fun n => decide (60 < n.f0.size)
theorem great14_ev (l : List SNode) (hl : l.length ≤ 9223372036854775807) : Ev (fun k => paymasterlaw14_Great.f k l) (greatN l) := by
  unfold paymasterlaw14_Great.f greatN
  by_cases h : 300 < l.length
  · exact Ev.some_ (fun k => by rw [if_pos (by omega)]; simp [h])
  · refine Ev.congr (fun k => by rw [if_neg (by omega)]; rfl) (ev_eq (great14_loop l hl l.length 0 (by omega)) (by simp [h]))

end Go.Proofs.YtlmmpncdemblbaaDoor.P
