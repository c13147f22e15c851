-- Hand-written contracts of this workplace, filled for this seat by a program.
import Derived.Test.YtlmmpncdemblbaaDoorPx0
import Derived.Test.YtlmmpncdemblbaaDoorPn0
import Derived.Test.YtlmmpncdemblbaaDoorPn2
import Derived.Test.YtlmmpncdemblbaaDoorPn5
import Derived.Test.YtlmmpncdemblbaaDoorPn6
import Derived.Test.YtlmmpncdemblbaaDoorPn7
import Derived.Test.YtlmmpncdemblbaaDoorPn8
import Derived.Test.YtlmmpncdemblbaaDoorUNode
import Derived.Test.YtlmmpncdemblbaaDoorU128
import Derived.Test.YtlmmpncdemblbaaDoorUSha
import Derived.Test.YtlmmpncdemblbaaDoorHExtSha
namespace Go.Proofs.YtlmmpncdemblbaaDoor.P
open Go.RowKit Go.Proofs.YtlmmpncdemblbaaDoorW.PrintWords Go.Proofs.YtlmmpncdemblbaaDoorW.PrintLast Go.Proofs.YtlmmpncdemblbaaDoorW.PrintMore
set_option linter.unusedVariables false
set_option linter.unusedSimpArgs false
set_option linter.unnecessarySimpa false

/-! Two nodes as one. -/
/-- A number's halves are in range. -/
structure OkU (u : SU128) : Prop where
  h0 : 0 ≤ u.f0 ∧ u.f0 < 18446744073709551616
  h1 : 0 ≤ u.f1 ∧ u.f1 < 18446744073709551616
def nodeText (l r : SNode) : ByteArray := (⟨#[1]⟩ : ByteArray) ++ l.f0 ++ u128B l.f1.f0 l.f1.f1 ++ r.f0 ++ u128B r.f1.f0 r.f1.f1
theorem nodeText_size (l r : SNode) : (nodeText l r).size = 33 + l.f0.size + r.f0.size := by
  simp only [nodeText, ByteArray.size_append, u128B_size]
  show 1 + _ + _ + _ + _ = _
  omega
theorem tagNodeText_eq (l r : SNode) (hl : l.f0.size ≤ 1000000) (hr : r.f0.size ≤ 1000000) : tag_NodeText.f l.f0 l.f1.f0 l.f1.f1 r.f0 r.f1.f0 r.f1.f1 = some (nodeText l r) := by
  have h1 : (strOfNums [1]).size = 1 := by rw [strOfNums_size]; rfl
  unfold tag_NodeText.f
  simp only [Option.bind_some, u128Bytes_eq, ByteArray.size_append, u128B_size, h1]
  rw [if_pos (by omega), if_pos (by omega), if_pos (by omega), if_pos (by omega)]
  rfl
theorem refNodeText_ev (l r : SNode) (hl : l.f0.size ≤ 1000000) (hr : r.f0.size ≤ 1000000) (ul : OkU l.f1) (ur : OkU r.f1) : Ev (fun k => paymasterref07_NodeText.f k l.f0 l.f1.f0 l.f1.f1 r.f0 r.f1.f0 r.f1.f1) (nodeText l r) := by
  have h1 : ByteArray.size (⟨#[1]⟩ : ByteArray) = 1 := rfl
  unfold paymasterref07_NodeText.f
  refine Ev.congr (fun k => by rw [if_pos (by omega)]) (Ev.bind (refBytes_ev _ _ ul.h0 ul.h1) ?_)
  refine Ev.congr (fun k => by rw [if_pos (by simp only [ByteArray.size_append, u128B_size, h1]; omega), if_pos (by simp only [ByteArray.size_append, u128B_size, h1]; omega)]) (Ev.bind (refBytes_ev _ _ ur.h0 ur.h1) ?_)
  exact Ev.congr (fun k => by rw [if_pos (by simp only [ByteArray.size_append, u128B_size, h1]; omega)]; rfl) (Ev.now _)
/-- The first bytes of a text's digest. -/
def dgI (w : Int) (t : ByteArray) : ByteArray := (refSumI t).extract 0 w.toNat
theorem refSumI_len (t : ByteArray) : (refSumI t).size = 32 := by
  rw [refSumI, digestI, strOfNums_size, digL_length]
theorem dgI_size (w : Int) (t : ByteArray) (h0 : 0 ≤ w) (h : w ≤ 32) : (dgI w t).size = w.toNat := by
  rw [dgI, ByteArray.size_extract, refSumI_len]; omega
theorem tagDigest_eq (w : Int) (t : ByteArray) (h0 : 1 ≤ w) (h1 : w ≤ 32) (ht : t.size ≤ 100000000) : tag_Digest.f w t = some (dgI w t) := by
  have e : sha_Sum.f t = some (refSumI t) := by rw [sha_Sum.f, if_pos (by omega), sumI_ref t (by omega)]
  unfold tag_Digest.f tag_MayWidth.f
  rw [if_pos h0]
  simp only [Option.bind_some, decide_eq_true h1, if_true, e]
  rw [if_pos (by omega), if_pos (by rw [refSumI_len]; omega)]
  rfl
theorem tagDigest_no (w : Int) (t : ByteArray) (h : ¬(1 ≤ w ∧ w ≤ 32)) : tag_Digest.f w t = some ⟨#[]⟩ := by
  unfold tag_Digest.f tag_MayWidth.f
  by_cases h1 : w ≥ 1
  · rw [if_pos h1]
    have h2 : decide (w ≤ 32) = false := decide_eq_false (by omega)
    simp [h2]
  · rw [if_neg h1]; simp
theorem refDigest_eq (w : Int) (t : ByteArray) (h0 : 1 ≤ w) (h1 : w ≤ 32) (ht : t.size ≤ 100000000) : paymasterref07_Digest.f w t = some (dgI w t) := by
  have e : ref05_Sum.f t = some (refSumI t) := by rw [ref05_Sum.f, if_pos (by omega)]
  unfold paymasterref07_Digest.f paymasterref07_MayWidth.f
  rw [if_pos h0]
  simp only [Option.bind_some, decide_eq_true h1, if_true, e]
  rw [if_pos (by omega), if_pos (by rw [refSumI_len]; omega)]
  rfl
theorem refDigest_no (w : Int) (t : ByteArray) (h : ¬(1 ≤ w ∧ w ≤ 32)) : paymasterref07_Digest.f w t = some ⟨#[]⟩ := by
  unfold paymasterref07_Digest.f paymasterref07_MayWidth.f
  by_cases h1 : w ≥ 1
  · rw [if_pos h1]
    have h2 : decide (w ≤ 32) = false := decide_eq_false (by omega)
    simp [h2]
  · rw [if_neg h1]; simp
/-- Two nodes as one: the digest, the sum's halves, the error. -/
def joinI (w : Int) (l r : SNode) : ByteArray × Int × Int × Int :=
  if nodeOf w l = true ∧ nodeOf w r = true then
    (if (addI128 l.f1.f0 l.f1.f1 r.f1.f0 r.f1.f1).2.2 = 0 then (dgI w (nodeText l r), (addI128 l.f1.f0 l.f1.f1 r.f1.f0 r.f1.f1).1, (addI128 l.f1.f0 l.f1.f1 r.f1.f0 r.f1.f1).2.1, 0) else (⟨#[]⟩, 0, 0, 10))
  else (⟨#[]⟩, 0, 0, 70)
theorem nodeOf_w {w : Int} {n : SNode} (h : nodeOf w n = true) : 1 ≤ w ∧ w ≤ 32 ∧ (n.f0.size : Int) = w := by
  simp only [nodeOf, Bool.and_eq_true, decide_eq_true_eq, beq_iff_eq] at h
  exact h
theorem join_ev (w : Int) (l r : SNode) (ul : OkU l.f1) (ur : OkU r.f1) : Ev (fun k => node_Join.f k w l.f0 l.f1.f0 l.f1.f1 r.f0 r.f1.f0 r.f1.f1) (joinI w l r) := by
  unfold node_Join.f joinI
  simp only [node_Of_eq, Option.bind_some]
  cases h1 : nodeOf w l with
  | false =>
    rw [if_neg (show ¬(false = true ∧ nodeOf w r = true) by simp)]
    exact Ev.congr (fun k => by rw [if_neg (show ¬ false = true by simp)]) (Ev.step (f := fun _ => some (⟨#[]⟩, 0, 0, 70)) (fun k => by rw [node_Join.j0, if_pos rfl]) (Ev.now _))
  | true =>
    refine Ev.congr (fun k => by rw [if_pos rfl]) ?_
    cases h2 : nodeOf w r with
    | false =>
      rw [if_neg (by simp)]
      exact Ev.step (f := fun _ => some (⟨#[]⟩, 0, 0, 70)) (fun k => by rw [node_Join.j0, if_pos (by rfl)]) (Ev.now _)
    | true =>
      rw [if_pos (by simp)]
      obtain ⟨w1, w2, w3⟩ := nodeOf_w h1
      obtain ⟨_, _, w4⟩ := nodeOf_w h2
      refine Ev.step (f := fun _ => some _) (fun k => ?_) (Ev.now _)
      rw [node_Join.j0, if_neg (by decide), u128Add_eq _ _ _ _ ul.h0 ul.h1 ur.h0 ur.h1]
      simp only [Option.bind_some, tagNodeText_eq l r (by omega) (by omega), tagDigest_eq w (nodeText l r) w1 w2 (by rw [nodeText_size]; omega)]
      split <;> rfl
theorem refJoin_ev (w : Int) (l r : SNode) (ul : OkU l.f1) (ur : OkU r.f1) : Ev (fun k => paymasterref14_Join.f k w l.f0 l.f1.f0 l.f1.f1 r.f0 r.f1.f0 r.f1.f1) (joinI w l r) := by
  unfold paymasterref14_Join.f joinI
  simp only [ref14Of_eq, Option.bind_some]
  cases h1 : nodeOf w l with
  | false =>
    rw [if_neg (show ¬(false = true ∧ nodeOf w r = true) by simp)]
    exact Ev.congr (fun k => by rw [if_neg (show ¬ false = true by simp)]) (Ev.step (f := fun _ => some (⟨#[]⟩, 0, 0, 70)) (fun k => by rw [paymasterref14_Join.j0, if_pos rfl]) (Ev.now _))
  | true =>
    refine Ev.congr (fun k => by rw [if_pos rfl]) ?_
    cases h2 : nodeOf w r with
    | false =>
      rw [if_neg (by simp)]
      exact Ev.step (f := fun _ => some (⟨#[]⟩, 0, 0, 70)) (fun k => by rw [paymasterref14_Join.j0, if_pos (by rfl)]) (Ev.now _)
    | true =>
      rw [if_pos (by simp)]
      obtain ⟨w1, w2, w3⟩ := nodeOf_w h1
      obtain ⟨_, _, w4⟩ := nodeOf_w h2
      refine Ev.step (f := fun k => _) (fun k => by rw [paymasterref14_Join.j0, if_neg (by decide)]) ?_
      refine Ev.bind (refAdd_ev _ _ _ _ ul.h0 ul.h1 ur.h0 ur.h1) ?_
      split
      · refine Ev.bind (refNodeText_ev l r (by omega) (by omega) ul ur) ?_
        simp only [refDigest_eq w (nodeText l r) w1 w2 (by rw [nodeText_size]; omega), Option.bind_some]
        exact Ev.now _
      · exact Ev.now _

end Go.Proofs.YtlmmpncdemblbaaDoor.P
