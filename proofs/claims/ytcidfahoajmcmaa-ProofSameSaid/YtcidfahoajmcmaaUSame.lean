-- Hand-written contracts of this workplace, filled for this seat by a program.
import Derived.Test.YtcidfahoajmcmaaPx0
import Derived.Test.YtcidfahoajmcmaaPx4
import Derived.Test.YtcidfahoajmcmaaUShape
namespace Go.Proofs.Ytcidfahoajmcmaa.P
open Go.RowKit Go.Proofs.YtcidfahoajmcmaaW.PrintWords Go.Proofs.YtcidfahoajmcmaaW.PrintLast Go.Proofs.YtcidfahoajmcmaaW.PrintMore
set_option linter.unusedVariables false
set_option linter.unusedSimpArgs false
set_option linter.unnecessarySimpa false

/-! When two rows of nodes, two entries, are the same. -/
def eqN (a b : SNode) : Bool := a.f0.toList == b.f0.toList && (a.f1.f0 == b.f1.f0 && a.f1.f1 == b.f1.f1)
theorem eqN_refl (a : SNode) : eqN a a = true := by simp [eqN]
theorem eqN_symm (a b : SNode) : eqN a b = eqN b a := by
  unfold eqN
  rw [Bool.beq_comm (a := a.f0.toList), Bool.beq_comm (a := a.f1.f0), Bool.beq_comm (a := a.f1.f1)]
theorem eqN_not (a b : SNode) : (!(a.f0.toList == b.f0.toList) || ((!(a.f1.f0 == b.f1.f0) || (!(a.f1.f1 == b.f1.f1))))) = !eqN a b := by
  unfold eqN
  cases (a.f0.toList == b.f0.toList) <;> cases (a.f1.f0 == b.f1.f0) <;> cases (a.f1.f1 == b.f1.f1) <;> rfl
def sameL : List SNode → List SNode → Bool
  | [], [] => true
  | a :: l, b :: m => eqN a b && sameL l m
  | _, _ => false
theorem sameL_refl : ∀ l, sameL l l = true
  | [] => rfl
  | a :: l => by rw [sameL, eqN_refl, sameL_refl l]; rfl
theorem sameL_symm : ∀ l m, sameL l m = sameL m l
  | [], [] => rfl
  | [], _ :: _ => rfl
  | _ :: _, [] => rfl
  | a :: l, b :: m => by rw [sameL, sameL, eqN_symm a b, sameL_symm l m]
theorem sameL_len : ∀ l m : List SNode, l.length ≠ m.length → sameL l m = false
  | [], [], h => absurd rfl h
  | [], _ :: _, _ => rfl
  | _ :: _, [], _ => rfl
  | a :: l, b :: m, h => by rw [sameL, sameL_len l m (by simpa using h)]; simp
theorem sameL_drop (l m : List SNode) (i : Nat) (h : i < l.length) (h' : i < m.length) : sameL (l.drop i) (m.drop i) = (eqN l[i] m[i] && sameL (l.drop (i + 1)) (m.drop (i + 1))) := by
  rw [List.drop_eq_getElem_cons h, List.drop_eq_getElem_cons h', sameL]
theorem same14_loop (l m : List SNode) (hl : l.length ≤ 9223372036854775807) (hm : l.length = m.length) : ∀ d i : Nat, i + d = l.length → Ev (fun k => paymasterref14_Same.l0 k l m (i : Int)) (sameL (l.drop i) (m.drop i)) := by
  intro d
  induction d with
  | zero =>
    intro i hi
    refine Ev.step (f := fun _ => some true) (fun k => ?_) (ev_eq (Ev.now true) ?_)
    · rw [paymasterref14_Same.l0, if_neg (by omega)]
    · rw [List.drop_of_length_le (by omega), List.drop_of_length_le (by omega)]; rfl
  | succ d ih =>
    intro i hi
    have h1 : i < l.length := by omega
    have h2 : i < m.length := by omega
    rw [sameL_drop l m i h1 h2]
    cases hb : eqN l[i] m[i] with
    | false =>
      refine Ev.step (f := fun _ => some false) (fun k => ?_) (ev_eq (Ev.now false) (by simp))
      rw [paymasterref14_Same.l0, if_pos (by omega), if_pos (by omega), if_pos (by omega), rdNode_nat l i h1, rdNode_nat m i h2, eqN_not, hb, if_pos (by rfl)]
    | true =>
      refine Ev.step (f := fun k => paymasterref14_Same.l0 k l m ((i + 1 : Nat) : Int)) (fun k => ?_) (ev_eq (ih (i + 1) (by omega)) (by simp))
      rw [paymasterref14_Same.l0, if_pos (by omega), if_pos (by omega), if_pos (by omega), rdNode_nat l i h1, rdNode_nat m i h2, eqN_not, hb, if_neg (by simp), wrap64_id (by omega) (by omega)]; rfl
theorem same14_ev (l m : List SNode) (hl : l.length ≤ 9223372036854775807) : Ev (fun k => paymasterref14_Same.f k l m) (sameL l m) := by
  unfold paymasterref14_Same.f
  by_cases h : l.length = m.length
  · refine Ev.congr (fun k => by rw [if_pos (by omega)]; rfl) (ev_eq (same14_loop l m hl h l.length 0 (by omega)) (by simp))
  · exact Ev.some_ (fun k => by rw [if_neg (by omega), sameL_len l m h])
theorem equal_loop (l m : List SNode) (hl : l.length ≤ 9223372036854775807) (hm : l.length = m.length) : ∀ d i : Nat, i + d = l.length → Ev (fun k => slices_Equal_Node.l0 k l m (l.length : Int) (i : Int)) (sameL (l.drop i) (m.drop i)) := by
  intro d
  induction d with
  | zero =>
    intro i hi
    refine Ev.step (f := fun _ => some true) (fun k => ?_) (ev_eq (Ev.now true) ?_)
    · rw [slices_Equal_Node.l0, if_neg (by omega)]
    · rw [List.drop_of_length_le (by omega), List.drop_of_length_le (by omega)]; rfl
  | succ d ih =>
    intro i hi
    have h1 : i < l.length := by omega
    have h2 : i < m.length := by omega
    rw [sameL_drop l m i h1 h2]
    cases hb : eqN l[i] m[i] with
    | false =>
      refine Ev.step (f := fun _ => some false) (fun k => ?_) (ev_eq (Ev.now false) (by simp))
      rw [slices_Equal_Node.l0, if_pos (by omega), if_pos (by omega), if_pos (by omega), if_pos (by omega), rdNode_nat l i h1, rdNode_nat m i h2, eqN_not, hb, if_pos (by rfl)]
    | true =>
      refine Ev.step (f := fun k => slices_Equal_Node.l0 k l m (l.length : Int) ((i + 1 : Nat) : Int)) (fun k => ?_) (ev_eq (ih (i + 1) (by omega)) (by simp))
      rw [slices_Equal_Node.l0, if_pos (by omega), if_pos (by omega), if_pos (by omega), if_pos (by omega), rdNode_nat l i h1, rdNode_nat m i h2, eqN_not, hb, if_neg (by simp), wrap64_id (by omega) (by omega)]; rfl
theorem equalN_ev (l m : List SNode) (hl : l.length ≤ 9223372036854775807) : Ev (fun k => slices_Equal_Node.f k l m) (sameL l m) := by
  unfold slices_Equal_Node.f
  by_cases h : l.length = m.length
  · refine Ev.congr (fun k => by rw [if_pos (by omega)]; rfl) (ev_eq (equal_loop l m hl h l.length 0 (by omega)) (by simp))
  · exact Ev.some_ (fun k => by rw [if_neg (by omega), sameL_len l m h])
def eqLf (a b : SLeaf) : Bool := a.f0 == b.f0 && (a.f1.toList == b.f1.toList && (a.f2.toList == b.f2.toList && ((a.f3.f0 == b.f3.f0 && (a.f3.f1 == b.f3.f1)))))
theorem eqLf_refl (a : SLeaf) : eqLf a a = true := by simp [eqLf]
theorem eqLf_symm (a b : SLeaf) : eqLf a b = eqLf b a := by
  unfold eqLf
  rw [Bool.beq_comm (a := a.f0), Bool.beq_comm (a := a.f1.toList), Bool.beq_comm (a := a.f2.toList), Bool.beq_comm (a := a.f3.f0), Bool.beq_comm (a := a.f3.f1)]
/-- Are two entries the same? -/
def sameE (a b : SEntry) : Bool := eqLf a.f0 b.f0 && (a.f1.f0 == b.f1.f0 && sameL a.f1.f1 b.f1.f1)
theorem sameE_refl (a : SEntry) : sameE a a = true := by simp [sameE, eqLf_refl, sameL_refl]
theorem sameE_symm (a b : SEntry) : sameE a b = sameE b a := by
  unfold sameE
  rw [eqLf_symm, sameL_symm, Bool.beq_comm (a := a.f1.f0)]
theorem same16_ev (a b : SEntry) (hl : a.f1.f1.length ≤ 9223372036854775807) : Ev (fun k => paymasterref16_Same.f k a.f0.f0 a.f0.f1 a.f0.f2 a.f0.f3.f0 a.f0.f3.f1 a.f1.f0 a.f1.f1 b.f0.f0 b.f0.f1 b.f0.f2 b.f0.f3.f0 b.f0.f3.f1 b.f1.f0 b.f1.f1) (sameE a b) := by
  unfold paymasterref16_Same.f sameE
  change Ev (fun k => if eqLf a.f0 b.f0 = true then _ else _) _
  cases eqLf a.f0 b.f0 with
  | false => exact Ev.some_ (fun k => by simp)
  | true =>
    by_cases h : a.f1.f0 = b.f1.f0
    · refine Ev.congr (fun k => by rw [if_pos rfl, if_pos h]) (Ev.bind (same14_ev _ _ hl) ?_)
      exact Ev.some_ (fun k => by simp [h])
    · exact Ev.some_ (fun k => by simp [h])
theorem sameP_ev (a b : SEntry) (hl : a.f1.f1.length ≤ 9223372036854775807) : Ev (fun k => proof_Same.f k a.f0.f0 a.f0.f1 a.f0.f2 a.f0.f3.f0 a.f0.f3.f1 a.f1.f0 a.f1.f1 b.f0.f0 b.f0.f1 b.f0.f2 b.f0.f3.f0 b.f0.f3.f1 b.f1.f0 b.f1.f1) (sameE a b) := by
  unfold proof_Same.f sameE
  change Ev (fun k => if eqLf a.f0 b.f0 = true then _ else _) _
  cases eqLf a.f0 b.f0 with
  | false => exact Ev.some_ (fun k => by simp)
  | true =>
    by_cases h : a.f1.f0 = b.f1.f0
    · refine Ev.congr (fun k => by rw [if_pos rfl, if_pos h]) (Ev.bind (equalN_ev _ _ hl) ?_)
      exact Ev.some_ (fun k => by simp [h])
    · exact Ev.some_ (fun k => by simp [h])

end Go.Proofs.Ytcidfahoajmcmaa.P
