-- Hand-written contracts of this workplace, filled for this seat by a program.
import Derived.Test.YtcidfahoajmcmaaDoorPx0
import Derived.Test.YtcidfahoajmcmaaDoorPz1
import Derived.Test.YtcidfahoajmcmaaDoorUBase
namespace Go.Proofs.YtcidfahoajmcmaaDoor.P
open Go.RowKit Go.Proofs.YtcidfahoajmcmaaDoorW.PrintWords Go.Proofs.YtcidfahoajmcmaaDoorW.PrintLast Go.Proofs.YtcidfahoajmcmaaDoorW.PrintMore
set_option linter.unusedVariables false
set_option linter.unusedSimpArgs false
set_option linter.unnecessarySimpa false

/-- Pieces, put together: the first i. -/
def catI (l : List ByteArray) : Nat → ByteArray
  | 0 => ByteArray.empty
  | i + 1 => catI l i ++ l.getD i ByteArray.empty
/-- How many bytes the first i pieces have. -/
def sizeI (l : List ByteArray) : Nat → Nat
  | 0 => 0
  | i + 1 => sizeI l i + (l.getD i ByteArray.empty).size
theorem catI_size (l : List ByteArray) : ∀ i, (catI l i).size = sizeI l i
  | 0 => rfl
  | i + 1 => by rw [catI, ByteArray.size_append, catI_size l i, sizeI]
theorem sizeI_le (l : List ByteArray) : ∀ i j, i ≤ j → sizeI l i ≤ sizeI l j := by
  intro i j h
  induction h with
  | refl => exact Nat.le_refl _
  | step _ ih => exact Nat.le_trans ih (by rw [sizeI]; omega)
/-- Are pieces more than are gone through? -/
def longB (l : List ByteArray) : Bool := decide (l.length > 40) || decide (sizeI l l.length > 2000)
theorem rd_nat (l : List ByteArray) (i : Nat) (h : i < l.length) : rdOf ByteArray.empty l (i : Int) = l.getD i ByteArray.empty := by simp [rdOf, h]
theorem long_many (l : List ByteArray) (hl : 40 < l.length) (hm : l.length ≤ 140737488355328) : ∀ (d i : Nat) (x : Int), d + i = l.length → Ev (fun k => paymasterlaw05_Long.l0 k l x (i : Int)) true
  | 0, i, x, h => by
    refine Ev.step (f := fun _ => some true) (fun k => ?_) (Ev.now true)
    rw [paymasterlaw05_Long.l0, if_neg (by omega), if_pos (by omega)]
  | d + 1, i, x, h => by
    refine Ev.step (f := fun k => paymasterlaw05_Long.l0 k l (wrap64 (x + ((rdOf ByteArray.empty l (i : Int)).size : Int))) ((i + 1 : Nat) : Int)) (fun k => ?_) (long_many l hl hm d (i + 1) _ (by omega))
    rw [paymasterlaw05_Long.l0, if_pos (by omega), if_pos (by omega), wrap64_id (x := (i : Int) + 1) (by omega) (by omega)]
    rfl
theorem sizeI_bound (l : List ByteArray) (hx : ∀ x ∈ l, x.size ≤ 140737488355328) : ∀ i, i ≤ l.length → sizeI l i ≤ i * 140737488355328
  | 0, _ => by simp [sizeI]
  | i + 1, h => by
    have := sizeI_bound l hx i (by omega)
    have h2 : (l.getD i ByteArray.empty).size ≤ 140737488355328 := by
      rw [List.getD_eq_getElem?_getD, List.getElem?_eq_getElem (by omega)]
      exact hx _ (List.getElem_mem _)
    rw [sizeI, Nat.succ_mul]
    omega
theorem long_few (l : List ByteArray) (hl : l.length ≤ 40) (hx : ∀ x ∈ l, x.size ≤ 140737488355328) : ∀ (d i : Nat), d + i = l.length → Ev (fun k => paymasterlaw05_Long.l0 k l (sizeI l i : Nat) (i : Int)) (decide (sizeI l l.length > 2000))
  | 0, i, h => by
    refine Ev.step (f := fun _ => some (decide (sizeI l l.length > 2000))) (fun k => ?_) (Ev.now _)
    obtain rfl : i = l.length := by omega
    rw [paymasterlaw05_Long.l0, if_neg (by omega), if_neg (by omega)]
    congr 1
    exact decide_eq_decide.2 (by omega)
  | d + 1, i, h => by
    have hb := sizeI_bound l hx (i + 1) (by omega)
    have h40 : (i + 1) * 140737488355328 ≤ 40 * 140737488355328 := Nat.mul_le_mul_right _ (by omega)
    have hs : sizeI l (i + 1) = sizeI l i + (l.getD i ByteArray.empty).size := rfl
    refine Ev.step (f := fun k => paymasterlaw05_Long.l0 k l (sizeI l (i + 1) : Nat) ((i + 1 : Nat) : Int)) (fun k => ?_) (long_few l hl hx d (i + 1) (by omega))
    rw [paymasterlaw05_Long.l0, if_pos (by omega), if_pos (by omega), wrap64_id (x := (i : Int) + 1) (by omega) (by omega), rd_nat l i (by omega), wrap64_id (by omega) (by omega), hs]
    congr 1
theorem long_ev (l : List ByteArray) (hm : l.length ≤ 140737488355328) (hx : ∀ x ∈ l, x.size ≤ 140737488355328) : Ev (fun k => paymasterlaw05_Long.f k l) (longB l) := by
  unfold paymasterlaw05_Long.f longB
  by_cases h : l.length > 40
  · rw [decide_eq_true h]
    exact long_many l h hm l.length 0 0 rfl
  · rw [decide_eq_false h]
    exact long_few l (by omega) hx l.length 0 rfl

end Go.Proofs.YtcidfahoajmcmaaDoor.P
