-- Hand-written contracts of this workplace, filled for this seat by a program.
import Derived.Test.YtlmmpncdemblbaaDoorPx0
import Derived.Test.YtlmmpncdemblbaaDoorPx1
import Derived.Test.YtlmmpncdemblbaaDoorHPad
import Derived.Test.YtlmmpncdemblbaaDoorUBase
namespace Go.Proofs.YtlmmpncdemblbaaDoor.P
open Go.RowKit Go.Proofs.YtlmmpncdemblbaaDoorW.PrintWords Go.Proofs.YtlmmpncdemblbaaDoorW.PrintLast Go.Proofs.YtlmmpncdemblbaaDoorW.PrintMore
set_option linter.unusedVariables false
set_option linter.unusedSimpArgs false
set_option linter.unnecessarySimpa false

theorem u64_range (x : Int) : 0 ≤ IntKind.u64.wrap x ∧ IntKind.u64.wrap x < 18446744073709551616 := by rw [IntKind.wrap_u64]; omega
theorem padI_nums (n : Int) : padI n = strOfNums (128 :: (List.replicate (padZ n) 0 ++ (List.range 8).map (padB n))) := by
  simp only [padI, padL, strOfNums, List.map_cons, List.map_append, List.map_replicate, List.map_map]
  rfl
theorem refPad_l1_step {x3 x5 : List Int} {x4 : Int} {i : Int} {r : ByteArray} (h0 : 0 ≤ x4) (h1 : x4 < 18446744073709551616) (hi : 0 ≤ i ∧ i < 8) (hl : x5.length < 1000)
    (h : Ev (fun k => paymasterref05_Padding.l1 k x3 (x4 / 256) (x4 % 256 :: x5) (i + 1)) r) : Ev (fun k => paymasterref05_Padding.l1 k x3 x4 x5 i) r := by
  refine Ev.step (f := fun k => paymasterref05_Padding.l1 k x3 (x4 / 256) (x4 % 256 :: x5) (i + 1)) (fun k => ?_) h
  have e1 : Int.tmod x4 256 = x4 % 256 := Int.tmod_eq_emod_of_nonneg h0
  have e2 : Int.tdiv x4 256 = x4 / 256 := Int.tdiv_eq_ediv_of_nonneg h0
  rw [paymasterref05_Padding.l1, if_pos hi.2]
  simp only [Option.bind_some, e1, e2]
  rw [if_pos (by simp; omega), wrap64_id (by omega) (by omega), wrapu64_id (by omega) (by omega)]
  congr 1
  simp
theorem refPad_l1_done {x3 x5 : List Int} {x4 : Int} (hl : x3.length + x5.length < 140737488355328) : Ev (fun k => paymasterref05_Padding.l1 k x3 x4 x5 8) (strOfNums (x3 ++ x5)) := by
  refine Ev.step (f := fun _ => some (strOfNums (x3 ++ x5))) (fun k => ?_) (Ev.now _)
  rw [paymasterref05_Padding.l1, if_neg (by decide), if_pos hl]
theorem refPad_l1 {x3 : List Int} {m : Int} (h0 : 0 ≤ m) (h1 : m < 18446744073709551616) (hl : x3.length < 1000) :
    Ev (fun k => paymasterref05_Padding.l1 k x3 m [] 0) (strOfNums (x3 ++ (List.range 8).map fun i => m / 2 ^ (56 - 8 * i) % 256)) := by
  have hd : ∀ x : Int, 0 ≤ x → 0 ≤ x / 256 ∧ x / 256 ≤ x := fun x h => by omega
  obtain ⟨a1, b1⟩ := hd m h0
  obtain ⟨a2, b2⟩ := hd _ a1
  obtain ⟨a3, b3⟩ := hd _ a2
  obtain ⟨a4, b4⟩ := hd _ a3
  obtain ⟨a5, b5⟩ := hd _ a4
  obtain ⟨a6, b6⟩ := hd _ a5
  obtain ⟨a7, b7⟩ := hd _ a6
  refine refPad_l1_step h0 h1 (by omega) (by simp) ?_
  refine refPad_l1_step a1 (by omega) (by omega) (by simp) ?_
  refine refPad_l1_step a2 (by omega) (by omega) (by simp) ?_
  refine refPad_l1_step a3 (by omega) (by omega) (by simp) ?_
  refine refPad_l1_step a4 (by omega) (by omega) (by simp) ?_
  refine refPad_l1_step a5 (by omega) (by omega) (by simp) ?_
  refine refPad_l1_step a6 (by omega) (by omega) (by simp) ?_
  refine refPad_l1_step a7 (by omega) (by omega) (by simp) ?_
  refine ev_eq (refPad_l1_done (by simp; omega)) ?_
  congr 1
  simp only [List.range, List.range.loop, List.map_cons, List.map_nil]
  congr 1
  simp only [List.cons.injEq, and_true]
  refine ⟨?_, ?_, ?_, ?_, ?_, ?_, ?_, ?_⟩ <;> (simp only [Nat.reduceMul, Nat.reduceSub]; omega)
theorem refPad_l0 (n : Int) (h0 : 0 ≤ n) (h1 : n < 18446744073709551616) : ∀ (d j : Nat), d + j = padZ n →
    Ev (fun k => paymasterref05_Padding.l0 k n (128 :: List.replicate j 0)) (padI n)
  | 0, j, h => by
    have hz : ((padZ n : Nat) : Int) = (119 - n) % 64 := by simp only [padZ]; omega
    refine Ev.step (f := fun k => paymasterref05_Padding.l1 k (128 :: List.replicate j 0) (IntKind.u64.wrap (n * 8)) [] 0) (fun k => ?_) ?_
    · rw [paymasterref05_Padding.l0, if_pos]
      simp only [List.length_cons, List.length_replicate]
      rw [IntKind.wrap_u64, IntKind.wrap_u64, Int.tmod_eq_emod_of_nonneg (by omega)]
      omega
    · have hm := u64_range (n * 8)
      refine ev_eq (refPad_l1 hm.1 hm.2 (by simp; omega)) ?_
      rw [padI_nums]
      obtain rfl : j = padZ n := by omega
      rfl
  | d + 1, j, h => by
    have hz : ((padZ n : Nat) : Int) = (119 - n) % 64 := by simp only [padZ]; omega
    refine Ev.step (f := fun k => paymasterref05_Padding.l0 k n (128 :: List.replicate (j + 1) 0)) (fun k => ?_) (refPad_l0 n h0 h1 d (j + 1) (by omega))
    rw [paymasterref05_Padding.l0, if_neg, if_pos]
    · congr 1
      simp [List.replicate_succ']
    · simp; omega
    · simp only [List.length_cons, List.length_replicate]
      rw [IntKind.wrap_u64, IntKind.wrap_u64, Int.tmod_eq_emod_of_nonneg (by omega)]
      omega
theorem refPad (n : Int) (h0 : 0 ≤ n) (h1 : n < 18446744073709551616) : Ev (fun k => paymasterref05_Padding.f k n) (padI n) := refPad_l0 n h0 h1 (padZ n) 0 rfl

theorem toList_data (b : ByteArray) : b.toList = b.data.toList := by
  obtain ⟨⟨l⟩⟩ := b
  exact ByteArray.toList_mk l
theorem toList_inj {a b : ByteArray} (h : a.toList = b.toList) : a = b := by
  rw [toList_data, toList_data] at h
  exact ByteArray.ext (Array.toList_inj.1 h)
theorem toList_beq (a b : ByteArray) : (a.toList == b.toList) = decide (a = b) := by
  by_cases e : a = b
  · subst e; simp
  · rw [decide_eq_false e, beq_eq_false_iff_ne]; exact fun h => e (toList_inj h)
theorem bt_nums (xs : List Int) (i : Nat) (hi : i < xs.length) (h0 : 0 ≤ xs[i]) (h1 : xs[i] < 256) : bt (strOfNums xs) (i : Int) = xs[i] := by
  have hs : i < (strOfNums xs).size := by rw [strOfNums_size]; exact hi
  simp only [bt, Int.toNat_natCast, hs, dif_pos]
  have : (strOfNums xs)[i]'hs = UInt8.ofNat xs[i].toNat := by
    show (strOfNums xs).data[i]'hs = _
    simp [strOfNums]
  rw [this, UInt8.toNat_ofNat']
  omega
/-- The bytes of a padding. -/
theorem padN_bt (n : Int) : ∀ i, i < 9 + padZ n → bt (padI n) (i : Int) = if i = 0 then 128 else if i ≤ padZ n then 0 else padB n (i - padZ n - 1) := by
  intro i hi
  have hb : ∀ j, 0 ≤ padB n j ∧ padB n j < 256 := fun j => ⟨Int.emod_nonneg _ (by decide), Int.emod_lt_of_pos _ (by decide)⟩
  obtain ⟨xs, hxs⟩ : ∃ xs : List Int, xs = 128 :: (List.replicate (padZ n) 0 ++ (List.range 8).map (padB n)) := ⟨_, rfl⟩
  have hl : i < xs.length := by rw [hxs]; simp; omega
  have hg : xs[i] = if i = 0 then 128 else if i ≤ padZ n then 0 else padB n (i - padZ n - 1) := by
    subst hxs
    cases i with
    | zero => rfl
    | succ i =>
      rw [if_neg (by omega), List.getElem_cons_succ, List.getElem_append]
      split
      · rename_i h; simp at h; rw [if_pos (by omega)]; simp
      · rename_i h; simp at h; rw [if_neg (by omega)]; simp; congr 1; omega
  rw [padI_nums, ← hxs, bt_nums xs i hl]
  · exact hg
  · rw [hg]; split
    · decide
    · split
      · decide
      · exact (hb _).1
  · rw [hg]; split
    · decide
    · split
      · decide
      · exact (hb _).2

end Go.Proofs.YtlmmpncdemblbaaDoor.P
