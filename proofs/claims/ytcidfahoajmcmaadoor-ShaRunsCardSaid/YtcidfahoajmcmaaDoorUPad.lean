-- Hand-written contracts of this workplace, filled for this seat by a program.
import Derived.Test.YtcidfahoajmcmaaDoorPx0
import Derived.Test.YtcidfahoajmcmaaDoorPx1
import Derived.Test.YtcidfahoajmcmaaDoorHPad
import Derived.Test.YtcidfahoajmcmaaDoorUBase
namespace Go.Proofs.YtcidfahoajmcmaaDoor.P
open Go.RowKit Go.Proofs.YtcidfahoajmcmaaDoorW.PrintWords Go.Proofs.YtcidfahoajmcmaaDoorW.PrintLast Go.Proofs.YtcidfahoajmcmaaDoorW.PrintMore
set_option linter.unusedVariables false
set_option linter.unusedSimpArgs false
set_option linter.unnecessarySimpa false

theorem u64_range (x : Int) : 0 ≤ IntKind.u64.wrap x ∧ IntKind.u64.wrap x < 18446744073709551616 := by rw [IntKind.wrap_u64]; omega
theorem padI_nums (n : Int) : padI n = strOfNums (128 :: (List.replicate (padZ n) 0 ++ (List.range 8).map (padB n))) := by
  simp only [padI, padL, strOfNums, List.map_cons, List.map_append, List.map_replicate, List.map_map]
  rfl
theorem refPad_l1_step {x3 x5 : List Int} {x4 : Int} {i : Int} {r : ByteArray} (h0 : 0 ≤ x4) (h1 : x4 < 18446744073709551616) (hi : 0 ≤ i ∧ i < 8) (hl : x5.length < 1000)
    (h : Ev (fun k => paymasterref05_Padding.l1 k x3 (x4 / 256) (x4 % 256 :: x5) (i + 1)) r) : Ev (fun k => paymasterref05_Padding.l1 k x3 x4 x5 i) r := by
  refine Ev.step (f := fun k => paymasterref05_Padding.l1 k x3 (x4 / 256) (x4 % 256 :: x5) (i + 1)) (fun k => ?_) h
  have e1 : Int.tmod x4 256 = x4 % 256 := Int.tmod_eq_emod_of_nonneg h0
  have e2 : Int.tdiv x4 256 = x4 / 256 := Int.tdiv_eq_ediv_of_nonneg h0
  rw [paymasterref05_Padding.l1, if_pos hi.2]
  simp only [Option.bind_some, e1, e2]
  rw [if_pos (by simp; omega), wrap64_id (by omega) (by omega), wrapu64_id (by omega) (by omega)]
  congr 1
  simp
theorem refPad_l1_done {x3 x5 : List Int} {x4 : Int} (hl : x3.length + x5.length < 140737488355328) : Ev (fun k => paymasterref05_Padding.l1 k x3 x4 x5 8) (strOfNums (x3 ++ x5)) := by
  refine Ev.step (f := fun _ => some (strOfNums (x3 ++ x5))) (fun k => ?_) (Ev.now _)
  rw [paymasterref05_Padding.l1, if_neg (by decide), if_pos hl]
theorem refPad_l1 {x3 : List Int} {m : Int} (h0 : 0 ≤ m) (h1 : m < 18446744073709551616) (hl : x3.length < 1000) :
    Ev (fun k => paymasterref05_Padding.l1 k x3 m [] 0) (strOfNums (x3 ++ (List.range 8).map fun i => m / 2 ^ (56 - 8 * i) % 256)) := by
  have hd : ∀ x : Int, 0 ≤ x → 0 ≤ x / 256 ∧ x / 256 ≤ x := fun x h => by omega
  obtain ⟨a1, b1⟩ := hd m h0
  obtain ⟨a2, b2⟩ := hd _ a1
  obtain ⟨a3, b3⟩ := hd _ a2
  obtain ⟨a4, b4⟩ := hd _ a3
  obtain ⟨a5, b5⟩ := hd _ a4
  obtain ⟨a6, b6⟩ := hd _ a5
  obtain ⟨a7, b7⟩ := hd _ a6
  refine refPad_l1_step h0 h1 (by omega) (by simp) ?_
  refine refPad_l1_step a1 (by omega) (by omega) (by simp) ?_
  refine refPad_l1_step a2 (by omega) (by omega) (by simp) ?_
  refine refPad_l1_step a3 (by omega) (by omega) (by simp) ?_
  refine refPad_l1_step a4 (by omega) (by omega) (by simp) ?_
  refine refPad_l1_step a5 (by omega) (by omega) (by simp) ?_
  refine refPad_l1_step a6 (by omega) (by omega) (by simp) ?_
  refine refPad_l1_step a7 (by omega) (by omega) (by simp) ?_
  refine ev_eq (refPad_l1_done (by simp; omega)) ?_
  congr 1
  simp only [List.range, List.range.loop, List.map_cons, List.map_nil]
  congr 1
  simp only [List.cons.injEq, and_true]
  refine ⟨?_, ?_, ?_, ?_, ?_, ?_, ?_, ?_⟩ <;> (simp only [Nat.reduceMul, Nat.reduceSub]; omega)
theorem refPad_l0 (n : Int) (h0 : 0 ≤ n) (h1 : n < 18446744073709551616) : ∀ (d j : Nat), d + j = padZ n →
    Ev (fun k => paymasterref05_Padding.l0 k n (128 :: List.replicate j 0)) (padI n)
  | 0, j, h => by
    have hz : ((padZ n : Nat) : Int) = (119 - n) % 64 := by simp only [padZ]; omega
    refine Ev.step (f := fun k => paymasterref05_Padding.l1 k (128 :: List.replicate j 0) (IntKind.u64.wrap (n * 8)) [] 0) (fun k => ?_) ?_
    · rw [paymasterref05_Padding.l0, if_pos]
      simp only [List.length_cons, List.length_replicate]
      rw [IntKind.wrap_u64, IntKind.wrap_u64, Int.tmod_eq_emod_of_nonneg (by omega)]
      omega
    · have hm := u64_range (n * 8)
      refine ev_eq (refPad_l1 hm.1 hm.2 (by simp; omega)) ?_
      rw [padI_nums]
      obtain rfl : j = padZ n := by omega
      rfl
  | d + 1, j, h => by
    have hz : ((padZ n : Nat) : Int) = (119 - n) % 64 := by simp only [padZ]; omega
    refine Ev.step (f := fun k => paymasterref05_Padding.l0 k n (128 :: List.replicate (j + 1) 0)) (fun k => ?_) (refPad_l0 n h0 h1 d (j + 1) (by omega))
    rw [paymasterref05_Padding.l0, if_neg, if_pos]
    · congr 1
      simp [List.replicate_succ']
    · simp; omega
    · simp only [List.length_cons, List.length_replicate]
      rw [IntKind.wrap_u64, IntKind.wrap_u64, Int.tmod_eq_emod_of_nonneg (by omega)]
      omega
theorem refPad (n : Int) (h0 : 0 ≤ n) (h1 : n < 18446744073709551616) : Ev (fun k => paymasterref05_Padding.f k n) (padI n) := refPad_l0 n h0 h1 (padZ n) 0 rfl

end Go.Proofs.YtcidfahoajmcmaaDoor.P
