-- Several texts of this workplace as one.
import Derived.Test.YtlmmpncdemblbaaDoorZVerifyUps2
import Derived.Test.YtlmmpncdemblbaaDoorProg
import Derived.Deep.OwnRows
import Derived.Laws.Rows
import Derived.Test.YtlmmpncdemblbaaDoorRows
import Derived.Test.YtlmmpncdemblbaaDoorCards
import Derived.Test.YtlmmpncdemblbaaDoorTie
namespace Go.Proofs.YtlmmpncdemblbaaDoor.P
open Go.RowKit Go.Proofs.YtlmmpncdemblbaaDoorW.PrintWords Go.Proofs.YtlmmpncdemblbaaDoorW.PrintLast Go.Proofs.YtlmmpncdemblbaaDoorW.PrintMore
attribute [local go_sem] max2_int min2_int max_two min_two max_three min_three max_four min_four-- for this text's walks alone
set_option linter.unusedVariables false
set_option linter.unusedSimpArgs false
/-! ### paymasterref07_LeafText: function 90 -/
def paymasterref07_LeafText.f (k : Nat) (a0_0 : Bool) (a0_1 : ByteArray) (a0_2 : ByteArray) (a0_3 : Int) (a0_4 : Int) : Option (ByteArray) := (paymasterref07_MayLeaf.f k a0_0 a0_1 a0_2 a0_3 a0_4).bind fun t154 => (if t154 = true then ((some (([((a0_2.size : Int)) % 256] : List Int) : List Int)).bind fun y155 => (if (strOfNums y155).size + a0_2.size ≤ 9223372036854775807 then (if a0_0 = true then (if 1 + ((strOfNums y155) ++ a0_2).size ≤ 9223372036854775807 then (some ((⟨#[2]⟩ : ByteArray) ++ ((strOfNums y155) ++ a0_2))) else (none)) else ((some (([0, ((a0_1.size : Int)) % 256] : List Int) : List Int)).bind fun y158 => (if (strOfNums y158).size + a0_1.size ≤ 9223372036854775807 then (if ((strOfNums y158) ++ a0_1).size + ((strOfNums y155) ++ a0_2).size ≤ 9223372036854775807 then ((paymasterref01_Bytes.f k a0_3 a0_4).bind fun t161 => (if (((strOfNums y158) ++ a0_1) ++ ((strOfNums y155) ++ a0_2)).size + t161.size ≤ 9223372036854775807 then (some ((((strOfNums y158) ++ a0_1) ++ ((strOfNums y155) ++ a0_2)) ++ t161)) else (none))) else (none)) else (none)))) else (none))) else (some (⟨#[]⟩ : ByteArray)))
def paymasterref07_LeafText.T6 : Bool × List (List Nat × List Nat) := (true, [([], []), ([0], [0]), ([1], [1]), ([2], [2]), ([3], [3]), ([4], [4]), ([], []), ([6], [6]), ([5, 7], [5, 7]), ([], []), ([8, 9], [8, 9]), ([], []), ([11], [11]), ([12], [12]), ([10, 13], [10, 13]), ([14, 13, 0, 1, 2, 3, 4, 5, 6, 7, 8, 9, 10, 11, 12, 13, 14], [14])])
def paymasterref07_LeafText.B6 : List Nat := [0, 1, 3, 7, 15, 31, 0, 64, 255, 0, 1023, 0, 2048, 6144, 16383, 32767]
theorem paymasterref07_LeafText.tab6 : rtab .any (opsOf Tryd.f90 6) = paymasterref07_LeafText.T6 := by kernel_rfl
theorem paymasterref07_LeafText.bits6 : waitsOk paymasterref07_LeafText.T6.2 paymasterref07_LeafText.B6 = true := by kernel_rfl
set_option maxHeartbeats 8000000 in
set_option maxRecDepth 100000 in
theorem paymasterref07_LeafText.calls (k : Nat) (a0_0 : Bool) (a0_1 : ByteArray) (a0_2 : ByteArray) (a0_3 : Int) (a0_4 : Int) (r : ByteArray) (w : World) (h : paymasterref07_LeafText.f k a0_0 a0_1 a0_2 a0_3 a0_4 = some r) :
  Calls Tryd.prog 90 #[.agg #[.bool a0_0, .string a0_1, .string a0_2, .int .u64 a0_3, .int .u64 a0_4]] w fun e w' => e = .returned (.string r) ∧ Below w.heap.size w w' := by
 have hu59 := Tryd.underlying59
 have hu24 := Tryd.underlying24
 have HB := Aside0.mk (Below.refl w.heap.size w)
 have H : ((paymasterref07_MayLeaf.f k a0_0 a0_1 a0_2 a0_3 a0_4).bind fun t154 => (if t154 = true then ((some (([((a0_2.size : Int)) % 256] : List Int) : List Int)).bind fun y155 => (if (strOfNums y155).size + a0_2.size ≤ 9223372036854775807 then (if a0_0 = true then (if 1 + ((strOfNums y155) ++ a0_2).size ≤ 9223372036854775807 then (some ((⟨#[2]⟩ : ByteArray) ++ ((strOfNums y155) ++ a0_2))) else (none)) else ((some (([0, ((a0_1.size : Int)) % 256] : List Int) : List Int)).bind fun y158 => (if (strOfNums y158).size + a0_1.size ≤ 9223372036854775807 then (if ((strOfNums y158) ++ a0_1).size + ((strOfNums y155) ++ a0_2).size ≤ 9223372036854775807 then ((paymasterref01_Bytes.f k a0_3 a0_4).bind fun t161 => (if (((strOfNums y158) ++ a0_1) ++ ((strOfNums y155) ++ a0_2)).size + t161.size ≤ 9223372036854775807 then (some ((((strOfNums y158) ++ a0_1) ++ ((strOfNums y155) ++ a0_2)) ++ t161)) else (none))) else (none)) else (none)))) else (none))) else (some (⟨#[]⟩ : ByteArray)))) = some r := h
 clear h
 replace H := Option.bind_eq_some_iff.mp H
 obtain ⟨t154, A20, H⟩ := H
 replace H : (if t154 = true then ((some (([((a0_2.size : Int)) % 256] : List Int) : List Int)).bind fun y155 => (if (strOfNums y155).size + a0_2.size ≤ 9223372036854775807 then (if a0_0 = true then (if 1 + ((strOfNums y155) ++ a0_2).size ≤ 9223372036854775807 then (some ((⟨#[2]⟩ : ByteArray) ++ ((strOfNums y155) ++ a0_2))) else (none)) else ((some (([0, ((a0_1.size : Int)) % 256] : List Int) : List Int)).bind fun y158 => (if (strOfNums y158).size + a0_1.size ≤ 9223372036854775807 then (if ((strOfNums y158) ++ a0_1).size + ((strOfNums y155) ++ a0_2).size ≤ 9223372036854775807 then ((paymasterref01_Bytes.f k a0_3 a0_4).bind fun t161 => (if (((strOfNums y158) ++ a0_1) ++ ((strOfNums y155) ++ a0_2)).size + t161.size ≤ 9223372036854775807 then (some ((((strOfNums y158) ++ a0_1) ++ ((strOfNums y155) ++ a0_2)) ++ t161)) else (none))) else (none)) else (none)))) else (none))) else (some (⟨#[]⟩ : ByteArray))) = some r := H
 have A2 := Aside0.mk A20
 clear A20
 by_cases c3 : t154 = true
 ·
  subst c3
  have H1 : ((some (([((a0_2.size : Int)) % 256] : List Int) : List Int)).bind fun y155 => (if (strOfNums y155).size + a0_2.size ≤ 9223372036854775807 then (if a0_0 = true then (if 1 + ((strOfNums y155) ++ a0_2).size ≤ 9223372036854775807 then (some ((⟨#[2]⟩ : ByteArray) ++ ((strOfNums y155) ++ a0_2))) else (none)) else ((some (([0, ((a0_1.size : Int)) % 256] : List Int) : List Int)).bind fun y158 => (if (strOfNums y158).size + a0_1.size ≤ 9223372036854775807 then (if ((strOfNums y158) ++ a0_1).size + ((strOfNums y155) ++ a0_2).size ≤ 9223372036854775807 then ((paymasterref01_Bytes.f k a0_3 a0_4).bind fun t161 => (if (((strOfNums y158) ++ a0_1) ++ ((strOfNums y155) ++ a0_2)).size + t161.size ≤ 9223372036854775807 then (some ((((strOfNums y158) ++ a0_1) ++ ((strOfNums y155) ++ a0_2)) ++ t161)) else (none))) else (none)) else (none)))) else (none))) = some r := by rw [if_pos rfl] at H; exact H
  clear H
  have H := H1
  clear H1
  obtain ⟨y155, hy155⟩ : ∃ y_ : List Int, y_ = (([((a0_2.size : Int)) % 256] : List Int)) := ⟨_, rfl⟩
  replace H : (if (strOfNums y155).size + a0_2.size ≤ 9223372036854775807 then (if a0_0 = true then (if 1 + ((strOfNums y155) ++ a0_2).size ≤ 9223372036854775807 then (some ((⟨#[2]⟩ : ByteArray) ++ ((strOfNums y155) ++ a0_2))) else (none)) else ((some (([0, ((a0_1.size : Int)) % 256] : List Int) : List Int)).bind fun y158 => (if (strOfNums y158).size + a0_1.size ≤ 9223372036854775807 then (if ((strOfNums y158) ++ a0_1).size + ((strOfNums y155) ++ a0_2).size ≤ 9223372036854775807 then ((paymasterref01_Bytes.f k a0_3 a0_4).bind fun t161 => (if (((strOfNums y158) ++ a0_1) ++ ((strOfNums y155) ++ a0_2)).size + t161.size ≤ 9223372036854775807 then (some ((((strOfNums y158) ++ a0_1) ++ ((strOfNums y155) ++ a0_2)) ++ t161)) else (none))) else (none)) else (none)))) else (none)) = some r := by first | (rw [hy155]; with_reducible exact H) | (have H2_ := (Option.bind_some _ _).symm.trans H; rw [hy155]; with_reducible exact H2_) | (have H2_ := (Option.bind_some _ _).symm.trans H; with_reducible exact H2_) | with_reducible exact H | (rw [hy155]; exact H) | exact H
  have Ny155 := Aside0.mk hy155
  clear hy155
  by_cases c4 : (strOfNums y155).size + a0_2.size ≤ 9223372036854775807
  ·
   rw [if_pos c4] at H
   have c4b0 := eq_true c4
   have c4b1 : decide ((strOfNums y155).size + a0_2.size ≤ 9223372036854775807) = true := decide_eq_true c4
   try have c4b2 : (9223372036854775807 < (strOfNums y155).size + a0_2.size) = False := eq_false (Nat.not_lt.2 c4)
   try (have c4b9 := c4; simp only [ByteArray.size_append, ba_size, List.length_cons, List.length_nil, Nat.zero_add, Nat.reduceAdd] at c4b9; have c4b8 := eq_false (Nat.not_lt.2 c4b9))
   by_cases c5 : a0_0 = true
   ·
    subst c5
    have H1 : (if 1 + ((strOfNums y155) ++ a0_2).size ≤ 9223372036854775807 then (some ((⟨#[2]⟩ : ByteArray) ++ ((strOfNums y155) ++ a0_2))) else (none)) = some r := by rw [if_pos rfl] at H; exact H
    clear H
    have H := H1
    clear H1
    by_cases c6 : 1 + ((strOfNums y155) ++ a0_2).size ≤ 9223372036854775807
    ·
     rw [if_pos c6] at H
     have c6b0 := eq_true c6
     have c6b1 : decide (1 + ((strOfNums y155) ++ a0_2).size ≤ 9223372036854775807) = true := decide_eq_true c6
     try have c6b2 : (9223372036854775807 < 1 + ((strOfNums y155) ++ a0_2).size) = False := eq_false (Nat.not_lt.2 c6)
     try (have c6b9 := c6; simp only [ByteArray.size_append, ba_size, List.length_cons, List.length_nil, Nat.zero_add, Nat.reduceAdd] at c6b9; have c6b8 := eq_false (Nat.not_lt.2 c6b9))
     obtain rfl := Option.some.inj H
     go_enter Tryd.func90, Tryd.ntmps90
     go_wp2_with (first | ((with_reducible refine gate_dst (N := 1) rfl ?_); refine box_event ?hg (N := 1) ?hd (cs := #[.bool true, .string a0_1, .string a0_2, .int .u64 a0_3, .int .u64 a0_4]) (t := 59) ?hr ?_; (case hd => rfl); (case hg => rfl); (case hr => first | (go_simp; done) | (go_simp; rfl)); intro gb153 hg w7 hbox hb; have n0_ := Aside0.mk (below_step (by repeat (first | (with_reducible first | exact HB.out | apply below_alloc | apply pw_below_drewN | apply below_drew1) | exact HB.out)) hb); have n1_ := Aside0.mk (hbox); have n2_ := Aside0.mk ((by rw [hg]; exact (below_size (by repeat (first | (with_reducible first | exact HB.out | apply below_alloc | apply pw_below_drewN | apply below_drew1) | exact HB.out))) : w.heap.size ≤ gb153)); have n3_ := Aside0.mk ((by rw [hg]; exact (below_size (by repeat (first | (with_reducible first | exact HB.out | apply below_alloc | apply pw_below_drewN | apply below_drew1) | exact HB.out))) : w.heap.size ≤ gb153)); clear HB; have HB := n0_; have BK153 := n1_; have GW153 := n2_; have GE153 := n3_; clear n0_ n1_ n2_ n3_; clear hb hbox hg; have hcz8_0 : w7.cell? ⟨gb153, 0, none⟩ = some (.bool true) := (blk_cell BK153.out 0).trans rfl; have hcz8_1 : w7.cell? ⟨gb153, 1, none⟩ = some (.string a0_1) := (blk_cell BK153.out 1).trans rfl; have hcz8_2 : w7.cell? ⟨gb153, 2, none⟩ = some (.string a0_2) := (blk_cell BK153.out 2).trans rfl; have hcz8_3 : w7.cell? ⟨gb153, 3, none⟩ = some (.int .u64 a0_3) := (blk_cell BK153.out 3).trans rfl; have hcz8_4 : w7.cell? ⟨gb153, 4, none⟩ = some (.int .u64 a0_4) := (blk_cell BK153.out 4).trans rfl; have hfz8_0 := blk_frozen BK153.out 0; have hfz8_1 := blk_frozen BK153.out 1; have hfz8_2 := blk_frozen BK153.out 2; have hfz8_3 := blk_frozen BK153.out 3; have hfz8_4 := blk_frozen BK153.out 4) | ((with_reducible refine gate_callee (f := 60) rfl ?_); refine goesL_ (some 5) rfl rfl Tryd.func60 (by kernel_rfl) rfl #[.agg #[.bool true, .string a0_1, .string a0_2, .int .u64 a0_3, .int .u64 a0_4]] rfl (by (try simp only [List.map_toArray, List.map_cons, List.map_nil]); first | done | rfl | (simp only [List.length_drop, List.length_take]; rfl)) ?_; (with_reducible refine (paymasterref07_MayLeaf.calls k true a0_1 a0_2 a0_3 a0_4 true _ A2.out).mono ?_); rintro e w9 ⟨rfl, hb⟩; refine ⟨_, rfl, ?_⟩; have n0_ := Aside0.mk (blk_below (g := gb153) (o := .cells #[.bool true, .string a0_1, .string a0_2, .int .u64 a0_3, .int .u64 a0_4] 59 (0, 0)) (by (with_reducible repeat (first | refine blk_drewN ?_ _ | refine blk_drew ?_ | refine blk_alloc ?_ _)); exact BK153.out) hb); have n1_ := Aside0.mk (below_step (by repeat (first | (with_reducible first | exact HB.out | apply below_alloc | apply pw_below_drewN | apply below_drew1 | refine below_set ?_ GE153.out) | exact HB.out)) hb); clear BK153; clear HB; have BK153 := n0_; have HB := n1_; clear n0_ n1_; (try clear hb); (try clear hb2); (try clear hk); (try clear hi); have hcz10_0 : w9.cell? ⟨gb153, 0, none⟩ = some (.bool true) := (blk_cell BK153.out 0).trans rfl; have hcz10_1 : w9.cell? ⟨gb153, 1, none⟩ = some (.string a0_1) := (blk_cell BK153.out 1).trans rfl; have hcz10_2 : w9.cell? ⟨gb153, 2, none⟩ = some (.string a0_2) := (blk_cell BK153.out 2).trans rfl; have hcz10_3 : w9.cell? ⟨gb153, 3, none⟩ = some (.int .u64 a0_3) := (blk_cell BK153.out 3).trans rfl; have hcz10_4 : w9.cell? ⟨gb153, 4, none⟩ = some (.int .u64 a0_4) := (blk_cell BK153.out 4).trans rfl; have hfz10_0 := blk_frozen BK153.out 0; have hfz10_1 := blk_frozen BK153.out 1; have hfz10_2 := blk_frozen BK153.out 2; have hfz10_3 := blk_frozen BK153.out 3; have hfz10_4 := blk_frozen BK153.out 4) | ((with_reducible refine gate_dst (N := 11) rfl ?_); refine Kd.R_lit (Kd.int .u8) _ 5 ?hg (N := 11) ?hd (xs := ([((a0_2.size : Int)) % 256] : List Int)) (inner := [.int .u8 (((a0_2.size : Int)) % 256)]) (ok := fun _ => True) (okp := fun _ => True) ?hr ?hp (fun _ hk => hk) trivial (Below.refl _ _) (Nat.le_refl _) (by simp) ?_; (case hd => rfl); (case hg => rfl); (case hr => first | (go_simp; done) | (go_simp; rfl)); (case hp => exact (Reps.one (show Kd.M (Kd.int .u8) _ _ _ (((a0_2.size : Int)) % 256) [.int .u8 (((a0_2.size : Int)) % 256)] from rfl) (Reps.none _ _))); intro v156 w11 ho12 hb hg_ hnew_; clear hg_ hnew_; (first | rw [← Ny155.out] at ho12 | (simp only [Int.reduceToNat] at ho12; rw [← Ny155.out] at ho12)); have n0_ := Aside0.mk (Kd.R_lower ho12 (below_size (by repeat (first | (with_reducible first | exact HB.out | apply below_alloc | apply pw_below_drewN | apply below_drew1 | refine below_set ?_ GE153.out) | exact HB.out)))); have n1_ := Aside0.mk (blk_below (g := gb153) (o := .cells #[.bool true, .string a0_1, .string a0_2, .int .u64 a0_3, .int .u64 a0_4] 59 (0, 0)) (by (with_reducible repeat (first | refine blk_drewN ?_ _ | refine blk_drew ?_ | refine blk_alloc ?_ _)); exact BK153.out) hb); have n2_ := Aside0.mk (below_step (by repeat (first | (with_reducible first | exact HB.out | apply below_alloc | apply pw_below_drewN | apply below_drew1 | refine below_set ?_ GE153.out) | exact HB.out)) hb); clear BK153; clear HB; have HO157 := n0_; have BK153 := n1_; have HB := n2_; clear n0_ n1_ n2_; clear hb ho12; have hcv13 := own_string (P := Tryd.prog) Tryd.underlying56 Tryd.underlying5 Tryd.underlying9 (Kd.own_of_R HO157.out); have hcz14_0 : w11.cell? ⟨gb153, 0, none⟩ = some (.bool true) := (blk_cell BK153.out 0).trans rfl; have hcz14_1 : w11.cell? ⟨gb153, 1, none⟩ = some (.string a0_1) := (blk_cell BK153.out 1).trans rfl; have hcz14_2 : w11.cell? ⟨gb153, 2, none⟩ = some (.string a0_2) := (blk_cell BK153.out 2).trans rfl; have hcz14_3 : w11.cell? ⟨gb153, 3, none⟩ = some (.int .u64 a0_3) := (blk_cell BK153.out 3).trans rfl; have hcz14_4 : w11.cell? ⟨gb153, 4, none⟩ = some (.int .u64 a0_4) := (blk_cell BK153.out 4).trans rfl; have hfz14_0 := blk_frozen BK153.out 0; have hfz14_1 := blk_frozen BK153.out 1; have hfz14_2 := blk_frozen BK153.out 2; have hfz14_3 := blk_frozen BK153.out 3; have hfz14_4 := blk_frozen BK153.out 4))
     go_ret
     exact ⟨by first | rfl | (simp [errW_none, errW_some] <;> rfl) | (simp [*, errW_none, errW_some] <;> rfl), by repeat (first | (with_reducible first | exact HB.out | apply below_alloc | apply pw_below_drewN | apply below_drew1 | refine below_set ?_ GE153.out) | exact HB.out)⟩
    ·
     rw [if_neg c6] at H
     exact absurd H (by simp)
   ·
    replace c5 := Bool.eq_false_iff.mpr c5
    subst c5
    have H1 : ((some (([0, ((a0_1.size : Int)) % 256] : List Int) : List Int)).bind fun y158 => (if (strOfNums y158).size + a0_1.size ≤ 9223372036854775807 then (if ((strOfNums y158) ++ a0_1).size + ((strOfNums y155) ++ a0_2).size ≤ 9223372036854775807 then ((paymasterref01_Bytes.f k a0_3 a0_4).bind fun t161 => (if (((strOfNums y158) ++ a0_1) ++ ((strOfNums y155) ++ a0_2)).size + t161.size ≤ 9223372036854775807 then (some ((((strOfNums y158) ++ a0_1) ++ ((strOfNums y155) ++ a0_2)) ++ t161)) else (none))) else (none)) else (none))) = some r := by rw [if_neg (show ¬ (false = true) by decide)] at H; exact H
    clear H
    have H := H1
    clear H1
    obtain ⟨y158, hy158⟩ : ∃ y_ : List Int, y_ = (([0, ((a0_1.size : Int)) % 256] : List Int)) := ⟨_, rfl⟩
    replace H : (if (strOfNums y158).size + a0_1.size ≤ 9223372036854775807 then (if ((strOfNums y158) ++ a0_1).size + ((strOfNums y155) ++ a0_2).size ≤ 9223372036854775807 then ((paymasterref01_Bytes.f k a0_3 a0_4).bind fun t161 => (if (((strOfNums y158) ++ a0_1) ++ ((strOfNums y155) ++ a0_2)).size + t161.size ≤ 9223372036854775807 then (some ((((strOfNums y158) ++ a0_1) ++ ((strOfNums y155) ++ a0_2)) ++ t161)) else (none))) else (none)) else (none)) = some r := by first | (rw [hy158]; with_reducible exact H) | (have H2_ := (Option.bind_some _ _).symm.trans H; rw [hy158]; with_reducible exact H2_) | (have H2_ := (Option.bind_some _ _).symm.trans H; with_reducible exact H2_) | with_reducible exact H | (rw [hy158]; exact H) | exact H
    have Ny158 := Aside0.mk hy158
    clear hy158
    by_cases c15 : (strOfNums y158).size + a0_1.size ≤ 9223372036854775807
    ·
     rw [if_pos c15] at H
     have c15b0 := eq_true c15
     have c15b1 : decide ((strOfNums y158).size + a0_1.size ≤ 9223372036854775807) = true := decide_eq_true c15
     try have c15b2 : (9223372036854775807 < (strOfNums y158).size + a0_1.size) = False := eq_false (Nat.not_lt.2 c15)
     try (have c15b9 := c15; simp only [ByteArray.size_append, ba_size, List.length_cons, List.length_nil, Nat.zero_add, Nat.reduceAdd] at c15b9; have c15b8 := eq_false (Nat.not_lt.2 c15b9))
     by_cases c16 : ((strOfNums y158) ++ a0_1).size + ((strOfNums y155) ++ a0_2).size ≤ 9223372036854775807
     ·
      rw [if_pos c16] at H
      have c16b0 := eq_true c16
      have c16b1 : decide (((strOfNums y158) ++ a0_1).size + ((strOfNums y155) ++ a0_2).size ≤ 9223372036854775807) = true := decide_eq_true c16
      try have c16b2 : (9223372036854775807 < ((strOfNums y158) ++ a0_1).size + ((strOfNums y155) ++ a0_2).size) = False := eq_false (Nat.not_lt.2 c16)
      try (have c16b9 := c16; simp only [ByteArray.size_append, ba_size, List.length_cons, List.length_nil, Nat.zero_add, Nat.reduceAdd] at c16b9; have c16b8 := eq_false (Nat.not_lt.2 c16b9))
      replace H := Option.bind_eq_some_iff.mp H
      obtain ⟨t161, A170, H⟩ := H
      replace H : (if (((strOfNums y158) ++ a0_1) ++ ((strOfNums y155) ++ a0_2)).size + t161.size ≤ 9223372036854775807 then (some ((((strOfNums y158) ++ a0_1) ++ ((strOfNums y155) ++ a0_2)) ++ t161)) else (none)) = some r := H
      have A17 := Aside0.mk A170
      clear A170
      by_cases c18 : (((strOfNums y158) ++ a0_1) ++ ((strOfNums y155) ++ a0_2)).size + t161.size ≤ 9223372036854775807
      ·
       rw [if_pos c18] at H
       have c18b0 := eq_true c18
       have c18b1 : decide ((((strOfNums y158) ++ a0_1) ++ ((strOfNums y155) ++ a0_2)).size + t161.size ≤ 9223372036854775807) = true := decide_eq_true c18
       try have c18b2 : (9223372036854775807 < (((strOfNums y158) ++ a0_1) ++ ((strOfNums y155) ++ a0_2)).size + t161.size) = False := eq_false (Nat.not_lt.2 c18)
       try (have c18b9 := c18; simp only [ByteArray.size_append, ba_size, List.length_cons, List.length_nil, Nat.zero_add, Nat.reduceAdd] at c18b9; have c18b8 := eq_false (Nat.not_lt.2 c18b9))
       obtain rfl := Option.some.inj H
       go_enter Tryd.func90, Tryd.ntmps90
       try go_wp2_with (first | ((with_reducible refine gate_dst (N := 1) rfl ?_); refine box_event ?hg (N := 1) ?hd (cs := #[.bool false, .string a0_1, .string a0_2, .int .u64 a0_3, .int .u64 a0_4]) (t := 59) ?hr ?_; (case hd => rfl); (case hg => rfl); (case hr => first | (go_simp; done) | (go_simp; rfl)); intro gb153 hg w19 hbox hb; have n0_ := Aside0.mk (below_step (by repeat (first | (with_reducible first | exact HB.out | apply below_alloc | apply pw_below_drewN | apply below_drew1) | exact HB.out)) hb); have n1_ := Aside0.mk (hbox); have n2_ := Aside0.mk ((by rw [hg]; exact (below_size (by repeat (first | (with_reducible first | exact HB.out | apply below_alloc | apply pw_below_drewN | apply below_drew1) | exact HB.out))) : w.heap.size ≤ gb153)); have n3_ := Aside0.mk ((by rw [hg]; exact (below_size (by repeat (first | (with_reducible first | exact HB.out | apply below_alloc | apply pw_below_drewN | apply below_drew1) | exact HB.out))) : w.heap.size ≤ gb153)); clear HB; have HB := n0_; have BK153 := n1_; have GW153 := n2_; have GE153 := n3_; clear n0_ n1_ n2_ n3_; clear hb hbox hg; have hcz20_0 : w19.cell? ⟨gb153, 0, none⟩ = some (.bool false) := (blk_cell BK153.out 0).trans rfl; have hcz20_1 : w19.cell? ⟨gb153, 1, none⟩ = some (.string a0_1) := (blk_cell BK153.out 1).trans rfl; have hcz20_2 : w19.cell? ⟨gb153, 2, none⟩ = some (.string a0_2) := (blk_cell BK153.out 2).trans rfl; have hcz20_3 : w19.cell? ⟨gb153, 3, none⟩ = some (.int .u64 a0_3) := (blk_cell BK153.out 3).trans rfl; have hcz20_4 : w19.cell? ⟨gb153, 4, none⟩ = some (.int .u64 a0_4) := (blk_cell BK153.out 4).trans rfl; have hfz20_0 := blk_frozen BK153.out 0; have hfz20_1 := blk_frozen BK153.out 1; have hfz20_2 := blk_frozen BK153.out 2; have hfz20_3 := blk_frozen BK153.out 3; have hfz20_4 := blk_frozen BK153.out 4) | ((with_reducible refine gate_callee (f := 60) rfl ?_); refine goesL_ (some 5) rfl rfl Tryd.func60 (by kernel_rfl) rfl #[.agg #[.bool false, .string a0_1, .string a0_2, .int .u64 a0_3, .int .u64 a0_4]] rfl (by (try simp only [List.map_toArray, List.map_cons, List.map_nil]); first | done | rfl | (simp only [List.length_drop, List.length_take]; rfl)) ?_; (with_reducible refine (paymasterref07_MayLeaf.calls k false a0_1 a0_2 a0_3 a0_4 true _ A2.out).mono ?_); rintro e w21 ⟨rfl, hb⟩; refine ⟨_, rfl, ?_⟩; have n0_ := Aside0.mk (blk_below (g := gb153) (o := .cells #[.bool false, .string a0_1, .string a0_2, .int .u64 a0_3, .int .u64 a0_4] 59 (0, 0)) (by (with_reducible repeat (first | refine blk_drewN ?_ _ | refine blk_drew ?_ | refine blk_alloc ?_ _)); exact BK153.out) hb); have n1_ := Aside0.mk (below_step (by repeat (first | (with_reducible first | exact HB.out | apply below_alloc | apply pw_below_drewN | apply below_drew1 | refine below_set ?_ GE153.out) | exact HB.out)) hb); clear BK153; clear HB; have BK153 := n0_; have HB := n1_; clear n0_ n1_; (try clear hb); (try clear hb2); (try clear hk); (try clear hi); have hcz22_0 : w21.cell? ⟨gb153, 0, none⟩ = some (.bool false) := (blk_cell BK153.out 0).trans rfl; have hcz22_1 : w21.cell? ⟨gb153, 1, none⟩ = some (.string a0_1) := (blk_cell BK153.out 1).trans rfl; have hcz22_2 : w21.cell? ⟨gb153, 2, none⟩ = some (.string a0_2) := (blk_cell BK153.out 2).trans rfl; have hcz22_3 : w21.cell? ⟨gb153, 3, none⟩ = some (.int .u64 a0_3) := (blk_cell BK153.out 3).trans rfl; have hcz22_4 : w21.cell? ⟨gb153, 4, none⟩ = some (.int .u64 a0_4) := (blk_cell BK153.out 4).trans rfl; have hfz22_0 := blk_frozen BK153.out 0; have hfz22_1 := blk_frozen BK153.out 1; have hfz22_2 := blk_frozen BK153.out 2; have hfz22_3 := blk_frozen BK153.out 3; have hfz22_4 := blk_frozen BK153.out 4) | ((with_reducible refine gate_dst (N := 11) rfl ?_); refine Kd.R_lit (Kd.int .u8) _ 5 ?hg (N := 11) ?hd (xs := ([((a0_2.size : Int)) % 256] : List Int)) (inner := [.int .u8 (((a0_2.size : Int)) % 256)]) (ok := fun _ => True) (okp := fun _ => True) ?hr ?hp (fun _ hk => hk) trivial (Below.refl _ _) (Nat.le_refl _) (by simp) ?_; (case hd => rfl); (case hg => rfl); (case hr => first | (go_simp; done) | (go_simp; rfl)); (case hp => exact (Reps.one (show Kd.M (Kd.int .u8) _ _ _ (((a0_2.size : Int)) % 256) [.int .u8 (((a0_2.size : Int)) % 256)] from rfl) (Reps.none _ _))); intro v156 w23 ho24 hb hg_ hnew_; clear hg_ hnew_; (first | rw [← Ny155.out] at ho24 | (simp only [Int.reduceToNat] at ho24; rw [← Ny155.out] at ho24)); have n0_ := Aside0.mk (Kd.R_lower ho24 (below_size (by repeat (first | (with_reducible first | exact HB.out | apply below_alloc | apply pw_below_drewN | apply below_drew1 | refine below_set ?_ GE153.out) | exact HB.out)))); have n1_ := Aside0.mk (blk_below (g := gb153) (o := .cells #[.bool false, .string a0_1, .string a0_2, .int .u64 a0_3, .int .u64 a0_4] 59 (0, 0)) (by (with_reducible repeat (first | refine blk_drewN ?_ _ | refine blk_drew ?_ | refine blk_alloc ?_ _)); exact BK153.out) hb); have n2_ := Aside0.mk (below_step (by repeat (first | (with_reducible first | exact HB.out | apply below_alloc | apply pw_below_drewN | apply below_drew1 | refine below_set ?_ GE153.out) | exact HB.out)) hb); clear BK153; clear HB; have HO157 := n0_; have BK153 := n1_; have HB := n2_; clear n0_ n1_ n2_; clear hb ho24; have hcv25 := own_string (P := Tryd.prog) Tryd.underlying56 Tryd.underlying5 Tryd.underlying9 (Kd.own_of_R HO157.out); have hcz26_0 : w23.cell? ⟨gb153, 0, none⟩ = some (.bool false) := (blk_cell BK153.out 0).trans rfl; have hcz26_1 : w23.cell? ⟨gb153, 1, none⟩ = some (.string a0_1) := (blk_cell BK153.out 1).trans rfl; have hcz26_2 : w23.cell? ⟨gb153, 2, none⟩ = some (.string a0_2) := (blk_cell BK153.out 2).trans rfl; have hcz26_3 : w23.cell? ⟨gb153, 3, none⟩ = some (.int .u64 a0_3) := (blk_cell BK153.out 3).trans rfl; have hcz26_4 : w23.cell? ⟨gb153, 4, none⟩ = some (.int .u64 a0_4) := (blk_cell BK153.out 4).trans rfl; have hfz26_0 := blk_frozen BK153.out 0; have hfz26_1 := blk_frozen BK153.out 1; have hfz26_2 := blk_frozen BK153.out 2; have hfz26_3 := blk_frozen BK153.out 3; have hfz26_4 := blk_frozen BK153.out 4))
       have n0_ := Aside0.mk (Kd.R_drew HO157.out)
       have n1_ := Aside0.mk (blk_drew BK153.out)
       have n2_ := Aside0.mk (below_drew1 HB.out)
       clear HO157
       clear BK153
       clear HB
       have HO157 := n0_
       have BK153 := n1_
       have HB := n2_
       clear n0_ n1_ n2_
       refine start_ (n := 16) (S := fun w' => w'.cell? ⟨gb153, 0, none⟩ = some (.bool false) ∧ w'.cell? ⟨gb153, 1, none⟩ = some (.string a0_1) ∧ w'.cell? ⟨gb153, 2, none⟩ = some (.string a0_2) ∧ w'.cell? ⟨gb153, 3, none⟩ = some (.int .u64 a0_3) ∧ w'.cell? ⟨gb153, 4, none⟩ = some (.int .u64 a0_4)) (ds := []) #[false, false, false, false, false, false, false, false, false, false, false, false, false, false, false, false] (by kernel_rfl) rfl rfl ⟨(blk_cell BK153.out 0).trans rfl, (blk_cell BK153.out 1).trans rfl, (blk_cell BK153.out 2).trans rfl, (blk_cell BK153.out 3).trans rfl, (blk_cell BK153.out 4).trans rfl⟩ (fun hHeld => ?_); refine with_tabW paymasterref07_LeafText.tab6 paymasterref07_LeafText.bits6 (fun HT_ HW_ => ?_)
       generalize w23.drew = w27 at HO157 BK153 HB hHeld ⊢
       refine pure_ (i := 0) (N := some 20) (v := ?_) (a' := ?_) #[true, false, false, false, false, false, false, false, false, false, false, false, false, false, false, false] rfl rfl (any_of HT_.out (by kernel_rfl)) (fun _ _ _ h => h) (Or.inl ⟨by rfl, ?_⟩) ?_ ?_
       rotate_left
       ·
        intro w'
        go_simp
        with_reducible rfl
       rotate_left
       ·
        simp only [Act.put, List.setIfInBounds_toArray, List.set_cons_zero, List.set_cons_succ, i64_w, i32_w]
        rfl
       refine pure_ (i := 6) (N := some 26) (v := ?_) (a' := ?_) #[true, false, false, false, false, false, true, false, false, false, false, false, false, false, false, false] rfl rfl (any_of HT_.out (by kernel_rfl)) (fun _ _ _ h => h) (Or.inl ⟨by rfl, ?_⟩) ?_ ?_
       rotate_left
       ·
        intro w'
        go_simp
        with_reducible rfl
       rotate_left
       ·
        simp only [Act.put, List.setIfInBounds_toArray, List.set_cons_zero, List.set_cons_succ, i64_w, i32_w]
        rfl
       refine pure_ (i := 9) (N := some 29) (v := ?_) (a' := ?_) #[true, false, false, false, false, false, true, false, false, true, false, false, false, false, false, false] rfl rfl (any_of HT_.out (by kernel_rfl)) (fun _ _ _ h => h) (Or.inl ⟨by rfl, ?_⟩) ?_ ?_
       rotate_left
       ·
        intro w'
        go_simp
        with_reducible rfl
       rotate_left
       ·
        simp only [Act.put, List.setIfInBounds_toArray, List.set_cons_zero, List.set_cons_succ, i64_w, i32_w]
        rfl
       refine pure_ (i := 11) (N := some 31) (v := ?_) (a' := ?_) #[true, false, false, false, false, false, true, false, false, true, false, true, false, false, false, false] rfl rfl (any_of HT_.out (by kernel_rfl)) (fun _ _ _ h => h) (Or.inl ⟨by rfl, ?_⟩) ?_ ?_
       rotate_left
       ·
        intro w'
        go_simp
        with_reducible rfl
       rotate_left
       ·
        simp only [Act.put, List.setIfInBounds_toArray, List.set_cons_zero, List.set_cons_succ, i64_w, i32_w]
        rfl
       refine take_ (i := 1) (N := some 21) (v := ?_) (a' := ?_) #[true, true, false, false, false, false, true, false, false, true, false, true, false, false, false, false] rfl rfl (take_ofW HT_.out HW_.out (by kernel_rfl)) (fun _ _ _ h => h) (Or.inl ⟨by rfl, ?_⟩) hHeld ?_ ?_
       rotate_left
       ·
        rintro w' ⟨s0, s1, s2, s3, s4⟩
        go_simp
        with_reducible rfl
       rotate_left
       ·
        simp only [Act.put, List.setIfInBounds_toArray, List.set_cons_zero, List.set_cons_succ, i64_w, i32_w]
        rfl
       refine pure_ (i := 2) (N := some 22) (v := ?_) (a' := ?_) #[true, true, true, false, false, false, true, false, false, true, false, true, false, false, false, false] rfl rfl (any_of HT_.out (by kernel_rfl)) (fun _ _ _ h => h) (Or.inl ⟨by rfl, ?_⟩) ?_ ?_
       rotate_left
       ·
        intro w'
        go_simp
        with_reducible rfl
       rotate_left
       ·
        simp only [Act.put, List.setIfInBounds_toArray, List.set_cons_zero, List.set_cons_succ, i64_w, i32_w]
        rfl
       refine pure_ (i := 3) (N := some 23) (v := ?_) (a' := ?_) #[true, true, true, true, false, false, true, false, false, true, false, true, false, false, false, false] rfl rfl (any_of HT_.out (by kernel_rfl)) (fun _ _ _ h => h) (Or.inl ⟨by rfl, ?_⟩) ?_ ?_
       rotate_left
       ·
        intro w'
        go_simp
        with_reducible rfl
       rotate_left
       ·
        simp only [Act.put, List.setIfInBounds_toArray, List.set_cons_zero, List.set_cons_succ, i64_w, i32_w]
        rfl
       refine take_ (i := 7) (N := some 27) (v := ?_) (a' := ?_) #[true, true, true, true, false, false, true, true, false, true, false, true, false, false, false, false] rfl rfl (take_ofW HT_.out HW_.out (by kernel_rfl)) (fun _ _ _ h => h) (Or.inl ⟨by rfl, ?_⟩) hHeld ?_ ?_
       rotate_left
       ·
        rintro w' ⟨s0, s1, s2, s3, s4⟩
        go_simp
        with_reducible rfl
       rotate_left
       ·
        simp only [Act.put, List.setIfInBounds_toArray, List.set_cons_zero, List.set_cons_succ, i64_w, i32_w]
        rfl
       refine take_ (i := 12) (N := some 32) (v := ?_) (a' := ?_) #[true, true, true, true, false, false, true, true, false, true, false, true, true, false, false, false] rfl rfl (take_ofW HT_.out HW_.out (by kernel_rfl)) (fun _ _ _ h => h) (Or.inl ⟨by rfl, ?_⟩) hHeld ?_ ?_
       rotate_left
       ·
        rintro w' ⟨s0, s1, s2, s3, s4⟩
        go_simp
        with_reducible rfl
       rotate_left
       ·
        simp only [Act.put, List.setIfInBounds_toArray, List.set_cons_zero, List.set_cons_succ, i64_w, i32_w]
        rfl
       refine join_ (σ := Value) 2 #[true, true, true, true, true, true, true, true, true, true, true, true, true, true, false, false] (fun s_ => [(24, s_), (25, .string (strOfNums y158)), (33, .string t161), (28, .string ((strOfNums y158) ++ a0_1)), (30, .string (((strOfNums y158) ++ a0_1) ++ ((strOfNums y155) ++ a0_2)))]) (fun s_ w' => (w'.cell? ⟨gb153, 0, none⟩ = some (.bool false) ∧ w'.cell? ⟨gb153, 1, none⟩ = some (.string a0_1) ∧ w'.cell? ⟨gb153, 2, none⟩ = some (.string a0_2) ∧ w'.cell? ⟨gb153, 3, none⟩ = some (.int .u64 a0_3) ∧ w'.cell? ⟨gb153, 4, none⟩ = some (.int .u64 a0_4)) ∧ (Kd.R (Kd.int .u8) 5 w' w.heap.size (fun k_ => some k_ ≠ (s_ : Value).ownBlock) v156 y155) ∧ (Kd.R (Kd.int .u8) 5 w' w.heap.size (fun k_ => some k_ ≠ (v156 : Value).ownBlock) s_ y158) ∧ (w'.heap[gb153]? = some (.cells #[.bool false, .string a0_1, .string a0_2, .int .u64 a0_3, .int .u64 a0_4] 59 (0, 0))) ∧ (Below w.heap.size w w')) ?_ ?_
       rotate_left
       ·
        intro hCont
        refine two_ (i := 4) (j := 13) (Ni := some 24) (Nj := some 33) #[true, true, true, true, true, false, true, true, false, true, false, true, true, false, false, false] #[true, true, true, true, false, false, true, true, false, true, false, true, true, true, false, false] rfl rfl rfl rfl (two_of HT_.out (by kernel_rfl)) (by decide) (by decide) (fun K hK => ?_) (fun K hK => ?_)
        ·
         skip
         refine Kd.R_lit_step (Kd.int .u8) _ 5 ?hg (N := 24) ?hd (xs := ([0, ((a0_1.size : Int)) % 256] : List Int)) (inner := [.int .u8 0, .int .u8 (((a0_1.size : Int)) % 256)]) (ok := fun _ => True) (okp := fun _ => True) ?hr ?hp (fun _ hk => hk) trivial (Below.refl _ _) (Nat.le_refl _) (by simp) ?_; (case hd => rfl); (case hg => rfl); (case hr => first | (go_simp; done) | (go_simp; rfl)); (case hp => exact (Reps.one (show Kd.M (Kd.int .u8) _ _ _ 0 [.int .u8 0] from rfl) (Reps.one (show Kd.M (Kd.int .u8) _ _ _ (((a0_1.size : Int)) % 256) [.int .u8 (((a0_1.size : Int)) % 256)] from rfl) (Reps.none _ _))))
         intro v159 w28 ho29 hb hg_ hnew_
         clear hg_ hnew_
         (first | rw [← Ny158.out] at ho29 | (simp only [Int.reduceToNat] at ho29; rw [← Ny158.out] at ho29))
         have n0_ := Aside0.mk (Kd.R_elder' (by (with_reducible repeat (first | apply Kd.R_alloc | apply Kd.R_drewN | apply Kd.R_drew)); exact HO157.out) (Kd.R_base ho29) hb)
         have n1_ := Aside0.mk (Kd.R_lower (Kd.R_new' ho29 (Kd.R_lt (by (with_reducible repeat (first | apply Kd.R_alloc | apply Kd.R_drewN | apply Kd.R_drew)); exact HO157.out))) (below_size (by repeat (first | (with_reducible first | exact HB.out | apply below_alloc | apply pw_below_drewN | apply below_drew1 | refine below_set ?_ GE153.out) | exact HB.out))))
         have n2_ := Aside0.mk (blk_below (g := gb153) (o := .cells #[.bool false, .string a0_1, .string a0_2, .int .u64 a0_3, .int .u64 a0_4] 59 (0, 0)) (by (with_reducible repeat (first | refine blk_drewN ?_ _ | refine blk_drew ?_ | refine blk_alloc ?_ _)); exact BK153.out) hb)
         have n3_ := Aside0.mk (below_step (by repeat (first | (with_reducible first | exact HB.out | apply below_alloc | apply pw_below_drewN | apply below_drew1 | refine below_set ?_ GE153.out) | exact HB.out)) hb)
         clear HO157
         clear BK153
         clear HB
         have HO157 := n0_
         have HO160 := n1_
         have BK153 := n2_
         have HB := n3_
         clear n0_ n1_ n2_ n3_
         clear hb ho29
         refine hK.out _ _ ⟨(blk_cell BK153.out 0).trans rfl, (blk_cell BK153.out 1).trans rfl, (blk_cell BK153.out 2).trans rfl, (blk_cell BK153.out 3).trans rfl, (blk_cell BK153.out 4).trans rfl⟩ (fun hHeld => ?_)
         clear hK K
         refine norm_ (a' := ?_) ?_ ?_
         rotate_left
         ·
          show Act.put _ (some 24) _ = _
          simp only [Act.put, List.setIfInBounds_toArray, List.set_cons_zero, List.set_cons_succ, i64_w, i32_w]
          rfl
         refine two_ (i := 5) (j := 13) (Ni := some 25) (Nj := some 33) #[true, true, true, true, true, true, true, true, false, true, false, true, true, false, false, false] #[true, true, true, true, true, false, true, true, false, true, false, true, true, true, false, false] rfl rfl rfl rfl (two_of HT_.out (by kernel_rfl)) (by decide) (by decide) (fun K hK => ?_) (fun K hK => ?_)
         ·
          skip
          have hcv30 := own_string (P := Tryd.prog) Tryd.underlying56 Tryd.underlying5 Tryd.underlying9 (Kd.own_of_R HO160.out)
          refine value_ (w1 := ?_) (v := ?_) (by rfl) rfl ?_ ?_
          rotate_left 2
          ·
           go_simp
           constructor
           ·
            rfl
           ·
            rfl
          clear hcv30
          refine hK.out _ _ ⟨(blk_cell BK153.out 0).trans rfl, (blk_cell BK153.out 1).trans rfl, (blk_cell BK153.out 2).trans rfl, (blk_cell BK153.out 3).trans rfl, (blk_cell BK153.out 4).trans rfl⟩ (fun hHeld => ?_)
          clear hK K
          refine norm_ (a' := ?_) ?_ ?_
          rotate_left
          ·
           show Act.put _ (some 25) _ = _
           simp only [Act.put, List.setIfInBounds_toArray, List.set_cons_zero, List.set_cons_succ, i64_w, i32_w]
           rfl
          refine pure_ (i := 8) (N := some 28) (v := ?_) (a' := ?_) #[true, true, true, true, true, true, true, true, true, true, false, true, true, false, false, false] rfl rfl (any_of HT_.out (by kernel_rfl)) (fun _ _ _ h => h) (Or.inl ⟨by rfl, ?_⟩) ?_ ?_
          rotate_left
          ·
           intro w'
           go_simp
           with_reducible rfl
          rotate_left
          ·
           simp only [Act.put, List.setIfInBounds_toArray, List.set_cons_zero, List.set_cons_succ, i64_w, i32_w]
           rfl
          refine pure_ (i := 10) (N := some 30) (v := ?_) (a' := ?_) #[true, true, true, true, true, true, true, true, true, true, true, true, true, false, false, false] rfl rfl (any_of HT_.out (by kernel_rfl)) (fun _ _ _ h => h) (Or.inl ⟨by rfl, ?_⟩) ?_ ?_
          rotate_left
          ·
           intro w'
           go_simp
           with_reducible rfl
          rotate_left
          ·
           simp only [Act.put, List.setIfInBounds_toArray, List.set_cons_zero, List.set_cons_succ, i64_w, i32_w]
           rfl
          refine one_ (i := 13) (N := some 33) #[true, true, true, true, true, true, true, true, true, true, true, true, true, true, false, false] rfl rfl (one_of HT_.out (by kernel_rfl)) (by decide) (fun K hK => ?_)
          refine goes_ Tryd.func92 (by kernel_rfl) rfl #[.agg #[.int .u64 a0_3, .int .u64 a0_4]] (by rfl) rfl rfl (by (try simp only [List.map_toArray, List.map_cons, List.map_nil]); first | done | rfl | (simp only [List.length_drop, List.length_take]; rfl)) ?_
          with_reducible refine (paymasterref01_Bytes.calls k a0_3 a0_4 t161 _ A17.out).mono ?_
          rintro e w31 ⟨rfl, hb⟩
          refine ⟨_, rfl, ?_⟩
          have n0_ := Aside0.mk (Kd.R_below (by (with_reducible repeat (first | apply Kd.R_alloc | apply Kd.R_drewN | apply Kd.R_drew)); exact HO157.out) hb)
          have n1_ := Aside0.mk (Kd.R_below (by (with_reducible repeat (first | apply Kd.R_alloc | apply Kd.R_drewN | apply Kd.R_drew)); exact HO160.out) hb)
          have n2_ := Aside0.mk (blk_below (g := gb153) (o := .cells #[.bool false, .string a0_1, .string a0_2, .int .u64 a0_3, .int .u64 a0_4] 59 (0, 0)) (by (with_reducible repeat (first | refine blk_drewN ?_ _ | refine blk_drew ?_ | refine blk_alloc ?_ _)); exact BK153.out) hb)
          have n3_ := Aside0.mk (below_step (by repeat (first | (with_reducible first | exact HB.out | apply below_alloc | apply pw_below_drewN | apply below_drew1 | refine below_set ?_ GE153.out) | exact HB.out)) hb)
          clear HO157
          clear HO160
          clear BK153
          clear HB
          have HO157 := n0_
          have HO160 := n1_
          have BK153 := n2_
          have HB := n3_
          clear n0_ n1_ n2_ n3_
          (try clear hb)
          (try clear hb2)
          (try clear hk)
          (try clear hi)
          refine hK.out _ _ ⟨(blk_cell BK153.out 0).trans rfl, (blk_cell BK153.out 1).trans rfl, (blk_cell BK153.out 2).trans rfl, (blk_cell BK153.out 3).trans rfl, (blk_cell BK153.out 4).trans rfl⟩ (fun hHeld => ?_)
          clear hK K
          refine norm_ (a' := ?_) ?_ ?_
          rotate_left
          ·
           show Act.put _ (some 33) _ = _
           simp only [Act.put, List.setIfInBounds_toArray, List.set_cons_zero, List.set_cons_succ, i64_w, i32_w]
           rfl
          exact norm_ (by simp only [putAll, Act.put, List.setIfInBounds_toArray, List.set_cons_zero, List.set_cons_succ]) (hCont (v159) _ ⟨hHeld, (by (with_reducible repeat (first | apply Kd.R_alloc | apply Kd.R_drewN | apply Kd.R_drew)); exact Kd.R_mono HO157.out (fun _ hk => hk.2)), (by (with_reducible repeat (first | apply Kd.R_alloc | apply Kd.R_drewN | apply Kd.R_drew)); exact Kd.R_mono HO160.out (fun _ hk => hk.2)), (by (with_reducible repeat (first | refine blk_drewN ?_ _ | refine blk_drew ?_ | refine blk_alloc ?_ _)); exact BK153.out), (by repeat (first | (with_reducible first | exact HB.out | apply below_alloc | apply pw_below_drewN | apply below_drew1 | refine below_set ?_ GE153.out) | exact HB.out))⟩)
         ·
          skip
          refine goes_ Tryd.func92 (by kernel_rfl) rfl #[.agg #[.int .u64 a0_3, .int .u64 a0_4]] (by rfl) rfl rfl (by (try simp only [List.map_toArray, List.map_cons, List.map_nil]); first | done | rfl | (simp only [List.length_drop, List.length_take]; rfl)) ?_
          with_reducible refine (paymasterref01_Bytes.calls k a0_3 a0_4 t161 _ A17.out).mono ?_
          rintro e w30 ⟨rfl, hb⟩
          refine ⟨_, rfl, ?_⟩
          have n0_ := Aside0.mk (Kd.R_below (by (with_reducible repeat (first | apply Kd.R_alloc | apply Kd.R_drewN | apply Kd.R_drew)); exact HO157.out) hb)
          have n1_ := Aside0.mk (Kd.R_below (by (with_reducible repeat (first | apply Kd.R_alloc | apply Kd.R_drewN | apply Kd.R_drew)); exact HO160.out) hb)
          have n2_ := Aside0.mk (blk_below (g := gb153) (o := .cells #[.bool false, .string a0_1, .string a0_2, .int .u64 a0_3, .int .u64 a0_4] 59 (0, 0)) (by (with_reducible repeat (first | refine blk_drewN ?_ _ | refine blk_drew ?_ | refine blk_alloc ?_ _)); exact BK153.out) hb)
          have n3_ := Aside0.mk (below_step (by repeat (first | (with_reducible first | exact HB.out | apply below_alloc | apply pw_below_drewN | apply below_drew1 | refine below_set ?_ GE153.out) | exact HB.out)) hb)
          clear HO157
          clear HO160
          clear BK153
          clear HB
          have HO157 := n0_
          have HO160 := n1_
          have BK153 := n2_
          have HB := n3_
          clear n0_ n1_ n2_ n3_
          (try clear hb)
          (try clear hb2)
          (try clear hk)
          (try clear hi)
          refine hK.out _ _ ⟨(blk_cell BK153.out 0).trans rfl, (blk_cell BK153.out 1).trans rfl, (blk_cell BK153.out 2).trans rfl, (blk_cell BK153.out 3).trans rfl, (blk_cell BK153.out 4).trans rfl⟩ (fun hHeld => ?_)
          clear hK K
          refine norm_ (a' := ?_) ?_ ?_
          rotate_left
          ·
           show Act.put _ (some 33) _ = _
           simp only [Act.put, List.setIfInBounds_toArray, List.set_cons_zero, List.set_cons_succ, i64_w, i32_w]
           rfl
          refine one_ (i := 5) (N := some 25) #[true, true, true, true, true, true, true, true, false, true, false, true, true, true, false, false] rfl rfl (one_of HT_.out (by kernel_rfl)) (by decide) (fun K hK => ?_)
          have hcv31 := own_string (P := Tryd.prog) Tryd.underlying56 Tryd.underlying5 Tryd.underlying9 (Kd.own_of_R HO160.out)
          refine value_ (w1 := ?_) (v := ?_) (by rfl) rfl ?_ ?_
          rotate_left 2
          ·
           go_simp
           constructor
           ·
            rfl
           ·
            rfl
          clear hcv31
          refine hK.out _ _ ⟨(blk_cell BK153.out 0).trans rfl, (blk_cell BK153.out 1).trans rfl, (blk_cell BK153.out 2).trans rfl, (blk_cell BK153.out 3).trans rfl, (blk_cell BK153.out 4).trans rfl⟩ (fun hHeld => ?_)
          clear hK K
          refine norm_ (a' := ?_) ?_ ?_
          rotate_left
          ·
           show Act.put _ (some 25) _ = _
           simp only [Act.put, List.setIfInBounds_toArray, List.set_cons_zero, List.set_cons_succ, i64_w, i32_w]
           rfl
          refine pure_ (i := 8) (N := some 28) (v := ?_) (a' := ?_) #[true, true, true, true, true, true, true, true, true, true, false, true, true, true, false, false] rfl rfl (any_of HT_.out (by kernel_rfl)) (fun _ _ _ h => h) (Or.inl ⟨by rfl, ?_⟩) ?_ ?_
          rotate_left
          ·
           intro w'
           go_simp
           with_reducible rfl
          rotate_left
          ·
           simp only [Act.put, List.setIfInBounds_toArray, List.set_cons_zero, List.set_cons_succ, i64_w, i32_w]
           rfl
          refine pure_ (i := 10) (N := some 30) (v := ?_) (a' := ?_) #[true, true, true, true, true, true, true, true, true, true, true, true, true, true, false, false] rfl rfl (any_of HT_.out (by kernel_rfl)) (fun _ _ _ h => h) (Or.inl ⟨by rfl, ?_⟩) ?_ ?_
          rotate_left
          ·
           intro w'
           go_simp
           with_reducible rfl
          rotate_left
          ·
           simp only [Act.put, List.setIfInBounds_toArray, List.set_cons_zero, List.set_cons_succ, i64_w, i32_w]
           rfl
          exact norm_ (by simp only [putAll, Act.put, List.setIfInBounds_toArray, List.set_cons_zero, List.set_cons_succ]) (hCont (v159) _ ⟨hHeld, (by (with_reducible repeat (first | apply Kd.R_alloc | apply Kd.R_drewN | apply Kd.R_drew)); exact Kd.R_mono HO157.out (fun _ hk => hk.2)), (by (with_reducible repeat (first | apply Kd.R_alloc | apply Kd.R_drewN | apply Kd.R_drew)); exact Kd.R_mono HO160.out (fun _ hk => hk.2)), (by (with_reducible repeat (first | refine blk_drewN ?_ _ | refine blk_drew ?_ | refine blk_alloc ?_ _)); exact BK153.out), (by repeat (first | (with_reducible first | exact HB.out | apply below_alloc | apply pw_below_drewN | apply below_drew1 | refine below_set ?_ GE153.out) | exact HB.out))⟩)
        ·
         skip
         refine goes_ Tryd.func92 (by kernel_rfl) rfl #[.agg #[.int .u64 a0_3, .int .u64 a0_4]] (by rfl) rfl rfl (by (try simp only [List.map_toArray, List.map_cons, List.map_nil]); first | done | rfl | (simp only [List.length_drop, List.length_take]; rfl)) ?_
         with_reducible refine (paymasterref01_Bytes.calls k a0_3 a0_4 t161 _ A17.out).mono ?_
         rintro e w28 ⟨rfl, hb⟩
         refine ⟨_, rfl, ?_⟩
         have n0_ := Aside0.mk (Kd.R_below (by (with_reducible repeat (first | apply Kd.R_alloc | apply Kd.R_drewN | apply Kd.R_drew)); exact HO157.out) hb)
         have n1_ := Aside0.mk (blk_below (g := gb153) (o := .cells #[.bool false, .string a0_1, .string a0_2, .int .u64 a0_3, .int .u64 a0_4] 59 (0, 0)) (by (with_reducible repeat (first | refine blk_drewN ?_ _ | refine blk_drew ?_ | refine blk_alloc ?_ _)); exact BK153.out) hb)
         have n2_ := Aside0.mk (below_step (by repeat (first | (with_reducible first | exact HB.out | apply below_alloc | apply pw_below_drewN | apply below_drew1 | refine below_set ?_ GE153.out) | exact HB.out)) hb)
         clear HO157
         clear BK153
         clear HB
         have HO157 := n0_
         have BK153 := n1_
         have HB := n2_
         clear n0_ n1_ n2_
         (try clear hb)
         (try clear hb2)
         (try clear hk)
         (try clear hi)
         refine hK.out _ _ ⟨(blk_cell BK153.out 0).trans rfl, (blk_cell BK153.out 1).trans rfl, (blk_cell BK153.out 2).trans rfl, (blk_cell BK153.out 3).trans rfl, (blk_cell BK153.out 4).trans rfl⟩ (fun hHeld => ?_)
         clear hK K
         refine norm_ (a' := ?_) ?_ ?_
         rotate_left
         ·
          show Act.put _ (some 33) _ = _
          simp only [Act.put, List.setIfInBounds_toArray, List.set_cons_zero, List.set_cons_succ, i64_w, i32_w]
          rfl
         refine one_ (i := 4) (N := some 24) #[true, true, true, true, true, false, true, true, false, true, false, true, true, true, false, false] rfl rfl (one_of HT_.out (by kernel_rfl)) (by decide) (fun K hK => ?_)
         refine Kd.R_lit_step (Kd.int .u8) _ 5 ?hg (N := 24) ?hd (xs := ([0, ((a0_1.size : Int)) % 256] : List Int)) (inner := [.int .u8 0, .int .u8 (((a0_1.size : Int)) % 256)]) (ok := fun _ => True) (okp := fun _ => True) ?hr ?hp (fun _ hk => hk) trivial (Below.refl _ _) (Nat.le_refl _) (by simp) ?_; (case hd => rfl); (case hg => rfl); (case hr => first | (go_simp; done) | (go_simp; rfl)); (case hp => exact (Reps.one (show Kd.M (Kd.int .u8) _ _ _ 0 [.int .u8 0] from rfl) (Reps.one (show Kd.M (Kd.int .u8) _ _ _ (((a0_1.size : Int)) % 256) [.int .u8 (((a0_1.size : Int)) % 256)] from rfl) (Reps.none _ _))))
         intro v159 w29 ho30 hb hg_ hnew_
         clear hg_ hnew_
         (first | rw [← Ny158.out] at ho30 | (simp only [Int.reduceToNat] at ho30; rw [← Ny158.out] at ho30))
         have n0_ := Aside0.mk (Kd.R_elder' (by (with_reducible repeat (first | apply Kd.R_alloc | apply Kd.R_drewN | apply Kd.R_drew)); exact HO157.out) (Kd.R_base ho30) hb)
         have n1_ := Aside0.mk (Kd.R_lower (Kd.R_new' ho30 (Kd.R_lt (by (with_reducible repeat (first | apply Kd.R_alloc | apply Kd.R_drewN | apply Kd.R_drew)); exact HO157.out))) (below_size (by repeat (first | (with_reducible first | exact HB.out | apply below_alloc | apply pw_below_drewN | apply below_drew1 | refine below_set ?_ GE153.out) | exact HB.out))))
         have n2_ := Aside0.mk (blk_below (g := gb153) (o := .cells #[.bool false, .string a0_1, .string a0_2, .int .u64 a0_3, .int .u64 a0_4] 59 (0, 0)) (by (with_reducible repeat (first | refine blk_drewN ?_ _ | refine blk_drew ?_ | refine blk_alloc ?_ _)); exact BK153.out) hb)
         have n3_ := Aside0.mk (below_step (by repeat (first | (with_reducible first | exact HB.out | apply below_alloc | apply pw_below_drewN | apply below_drew1 | refine below_set ?_ GE153.out) | exact HB.out)) hb)
         clear HO157
         clear BK153
         clear HB
         have HO157 := n0_
         have HO160 := n1_
         have BK153 := n2_
         have HB := n3_
         clear n0_ n1_ n2_ n3_
         clear hb ho30
         refine hK.out _ _ ⟨(blk_cell BK153.out 0).trans rfl, (blk_cell BK153.out 1).trans rfl, (blk_cell BK153.out 2).trans rfl, (blk_cell BK153.out 3).trans rfl, (blk_cell BK153.out 4).trans rfl⟩ (fun hHeld => ?_)
         clear hK K
         refine norm_ (a' := ?_) ?_ ?_
         rotate_left
         ·
          show Act.put _ (some 24) _ = _
          simp only [Act.put, List.setIfInBounds_toArray, List.set_cons_zero, List.set_cons_succ, i64_w, i32_w]
          rfl
         refine one_ (i := 5) (N := some 25) #[true, true, true, true, true, true, true, true, false, true, false, true, true, true, false, false] rfl rfl (one_of HT_.out (by kernel_rfl)) (by decide) (fun K hK => ?_)
         have hcv31 := own_string (P := Tryd.prog) Tryd.underlying56 Tryd.underlying5 Tryd.underlying9 (Kd.own_of_R HO160.out)
         refine value_ (w1 := ?_) (v := ?_) (by rfl) rfl ?_ ?_
         rotate_left 2
         ·
          go_simp
          constructor
          ·
           rfl
          ·
           rfl
         clear hcv31
         refine hK.out _ _ ⟨(blk_cell BK153.out 0).trans rfl, (blk_cell BK153.out 1).trans rfl, (blk_cell BK153.out 2).trans rfl, (blk_cell BK153.out 3).trans rfl, (blk_cell BK153.out 4).trans rfl⟩ (fun hHeld => ?_)
         clear hK K
         refine norm_ (a' := ?_) ?_ ?_
         rotate_left
         ·
          show Act.put _ (some 25) _ = _
          simp only [Act.put, List.setIfInBounds_toArray, List.set_cons_zero, List.set_cons_succ, i64_w, i32_w]
          rfl
         refine pure_ (i := 8) (N := some 28) (v := ?_) (a' := ?_) #[true, true, true, true, true, true, true, true, true, true, false, true, true, true, false, false] rfl rfl (any_of HT_.out (by kernel_rfl)) (fun _ _ _ h => h) (Or.inl ⟨by rfl, ?_⟩) ?_ ?_
         rotate_left
         ·
          intro w'
          go_simp
          with_reducible rfl
         rotate_left
         ·
          simp only [Act.put, List.setIfInBounds_toArray, List.set_cons_zero, List.set_cons_succ, i64_w, i32_w]
          rfl
         refine pure_ (i := 10) (N := some 30) (v := ?_) (a' := ?_) #[true, true, true, true, true, true, true, true, true, true, true, true, true, true, false, false] rfl rfl (any_of HT_.out (by kernel_rfl)) (fun _ _ _ h => h) (Or.inl ⟨by rfl, ?_⟩) ?_ ?_
         rotate_left
         ·
          intro w'
          go_simp
          with_reducible rfl
         rotate_left
         ·
          simp only [Act.put, List.setIfInBounds_toArray, List.set_cons_zero, List.set_cons_succ, i64_w, i32_w]
          rfl
         exact norm_ (by simp only [putAll, Act.put, List.setIfInBounds_toArray, List.set_cons_zero, List.set_cons_succ]) (hCont (v159) _ ⟨hHeld, (by (with_reducible repeat (first | apply Kd.R_alloc | apply Kd.R_drewN | apply Kd.R_drew)); exact Kd.R_mono HO157.out (fun _ hk => hk.2)), (by (with_reducible repeat (first | apply Kd.R_alloc | apply Kd.R_drewN | apply Kd.R_drew)); exact Kd.R_mono HO160.out (fun _ hk => hk.2)), (by (with_reducible repeat (first | refine blk_drewN ?_ _ | refine blk_drew ?_ | refine blk_alloc ?_ _)); exact BK153.out), (by repeat (first | (with_reducible first | exact HB.out | apply below_alloc | apply pw_below_drewN | apply below_drew1 | refine below_set ?_ GE153.out) | exact HB.out))⟩)
       rintro v159 w32 ⟨hS_, h0_, h1_, h2_, h3_⟩
       have n0_ : Aside0 (Kd.R (Kd.int .u8) 5 w32 w.heap.size (fun k_ => some k_ ≠ (v159 : Value).ownBlock) v156 y155) := ⟨h0_⟩
       have n1_ : Aside0 (Kd.R (Kd.int .u8) 5 w32 w.heap.size (fun k_ => some k_ ≠ (v156 : Value).ownBlock) v159 y158) := ⟨h1_⟩
       have n2_ : Aside0 (w32.heap[gb153]? = some (.cells #[.bool false, .string a0_1, .string a0_2, .int .u64 a0_3, .int .u64 a0_4] 59 (0, 0))) := ⟨h2_⟩
       have n3_ : Aside0 (Below w.heap.size w w32) := ⟨h3_⟩
       clear HO157
       clear BK153
       clear HB
       clear h0_ h1_ h2_ h3_
       have HO157 := n0_
       have HO160 := n1_
       have BK153 := n2_
       have HB := n3_
       clear n0_ n1_ n2_ n3_
       have hHeld : w32.cell? ⟨gb153, 0, none⟩ = some (.bool false) ∧ w32.cell? ⟨gb153, 1, none⟩ = some (.string a0_1) ∧ w32.cell? ⟨gb153, 2, none⟩ = some (.string a0_2) ∧ w32.cell? ⟨gb153, 3, none⟩ = some (.int .u64 a0_3) ∧ w32.cell? ⟨gb153, 4, none⟩ = some (.int .u64 a0_4) := hS_
       refine norm_ (a' := ?_) ?_ ?_
       rotate_left
       ·
        simp only [putAll, Act.put, List.setIfInBounds_toArray, List.set_cons_zero, List.set_cons_succ]
        rfl
       refine pure_ (i := 14) (N := some 34) (v := ?_) (a' := ?_) #[true, true, true, true, true, true, true, true, true, true, true, true, true, true, true, false] rfl rfl (any_of HT_.out (by kernel_rfl)) (fun _ _ _ h => h) (Or.inl ⟨by rfl, ?_⟩) ?_ ?_
       rotate_left
       ·
        intro w'
        go_simp
        with_reducible rfl
       rotate_left
       ·
        simp only [Act.put, List.setIfInBounds_toArray, List.set_cons_zero, List.set_cons_succ, i64_w, i32_w]
        rfl
       refine pure_ (i := 15) (N := some 2) (v := ?_) (a' := ?_) #[true, true, true, true, true, true, true, true, true, true, true, true, true, true, true, true] rfl rfl (any_of HT_.out (by kernel_rfl)) (fun _ _ _ h => h) (Or.inl ⟨by rfl, ?_⟩) ?_ ?_
       rotate_left
       ·
        intro w'
        go_simp
        with_reducible rfl
       rotate_left
       ·
        simp only [Act.put, List.setIfInBounds_toArray, List.set_cons_zero, List.set_cons_succ, i64_w, i32_w]
        rfl
       refine done_ (done_of HT_.out (by kernel_rfl)) ?_
       try go_wp2
       go_ret
       exact ⟨by first | rfl | (simp [errW_none, errW_some] <;> rfl) | (simp [*, errW_none, errW_some] <;> rfl), by repeat (first | (with_reducible first | exact HB.out | apply below_alloc | apply pw_below_drewN | apply below_drew1 | refine below_set ?_ GE153.out) | exact HB.out)⟩
      ·
       rw [if_neg c18] at H
       exact absurd H (by simp)
     ·
      rw [if_neg c16] at H
      exact absurd H (by simp)
    ·
     rw [if_neg c15] at H
     exact absurd H (by simp)
  ·
   rw [if_neg c4] at H
   exact absurd H (by simp)
 ·
  replace c3 := Bool.eq_false_iff.mpr c3
  subst c3
  have H1 : (some (⟨#[]⟩ : ByteArray)) = some r := by rw [if_neg (show ¬ (false = true) by decide)] at H; exact H
  clear H
  have H := H1
  clear H1
  obtain rfl := Option.some.inj H
  go_enter Tryd.func90, Tryd.ntmps90
  go_wp2_with (first | ((with_reducible refine gate_dst (N := 1) rfl ?_); refine box_event ?hg (N := 1) ?hd (cs := #[.bool a0_0, .string a0_1, .string a0_2, .int .u64 a0_3, .int .u64 a0_4]) (t := 59) ?hr ?_; (case hd => rfl); (case hg => rfl); (case hr => first | (go_simp; done) | (go_simp; rfl)); intro gb153 hg w33 hbox hb; have n0_ := Aside0.mk (below_step (by repeat (first | (with_reducible first | exact HB.out | apply below_alloc | apply pw_below_drewN | apply below_drew1) | exact HB.out)) hb); have n1_ := Aside0.mk (hbox); have n2_ := Aside0.mk ((by rw [hg]; exact (below_size (by repeat (first | (with_reducible first | exact HB.out | apply below_alloc | apply pw_below_drewN | apply below_drew1) | exact HB.out))) : w.heap.size ≤ gb153)); have n3_ := Aside0.mk ((by rw [hg]; exact (below_size (by repeat (first | (with_reducible first | exact HB.out | apply below_alloc | apply pw_below_drewN | apply below_drew1) | exact HB.out))) : w.heap.size ≤ gb153)); clear HB; have HB := n0_; have BK153 := n1_; have GW153 := n2_; have GE153 := n3_; clear n0_ n1_ n2_ n3_; clear hb hbox hg; have hcz34_0 : w33.cell? ⟨gb153, 0, none⟩ = some (.bool a0_0) := (blk_cell BK153.out 0).trans rfl; have hcz34_1 : w33.cell? ⟨gb153, 1, none⟩ = some (.string a0_1) := (blk_cell BK153.out 1).trans rfl; have hcz34_2 : w33.cell? ⟨gb153, 2, none⟩ = some (.string a0_2) := (blk_cell BK153.out 2).trans rfl; have hcz34_3 : w33.cell? ⟨gb153, 3, none⟩ = some (.int .u64 a0_3) := (blk_cell BK153.out 3).trans rfl; have hcz34_4 : w33.cell? ⟨gb153, 4, none⟩ = some (.int .u64 a0_4) := (blk_cell BK153.out 4).trans rfl; have hfz34_0 := blk_frozen BK153.out 0; have hfz34_1 := blk_frozen BK153.out 1; have hfz34_2 := blk_frozen BK153.out 2; have hfz34_3 := blk_frozen BK153.out 3; have hfz34_4 := blk_frozen BK153.out 4) | ((with_reducible refine gate_callee (f := 60) rfl ?_); refine goesL_ (some 5) rfl rfl Tryd.func60 (by kernel_rfl) rfl #[.agg #[.bool a0_0, .string a0_1, .string a0_2, .int .u64 a0_3, .int .u64 a0_4]] rfl (by (try simp only [List.map_toArray, List.map_cons, List.map_nil]); first | done | rfl | (simp only [List.length_drop, List.length_take]; rfl)) ?_; (with_reducible refine (paymasterref07_MayLeaf.calls k a0_0 a0_1 a0_2 a0_3 a0_4 false _ A2.out).mono ?_); rintro e w35 ⟨rfl, hb⟩; refine ⟨_, rfl, ?_⟩; have n0_ := Aside0.mk (blk_below (g := gb153) (o := .cells #[.bool a0_0, .string a0_1, .string a0_2, .int .u64 a0_3, .int .u64 a0_4] 59 (0, 0)) (by (with_reducible repeat (first | refine blk_drewN ?_ _ | refine blk_drew ?_ | refine blk_alloc ?_ _)); exact BK153.out) hb); have n1_ := Aside0.mk (below_step (by repeat (first | (with_reducible first | exact HB.out | apply below_alloc | apply pw_below_drewN | apply below_drew1 | refine below_set ?_ GE153.out) | exact HB.out)) hb); clear BK153; clear HB; have BK153 := n0_; have HB := n1_; clear n0_ n1_; (try clear hb); (try clear hb2); (try clear hk); (try clear hi)))
  go_ret
  exact ⟨by first | rfl | (simp [errW_none, errW_some] <;> rfl) | (simp [*, errW_none, errW_some] <;> rfl), by repeat (first | (with_reducible first | exact HB.out | apply below_alloc | apply pw_below_drewN | apply below_drew1 | refine below_set ?_ GE153.out) | exact HB.out)⟩
/-! ### paymasterref07_LeafNode: function 62 -/
def paymasterref07_LeafNode.j0 : Nat → Int → Bool → Bool → ByteArray → ByteArray → Int → Int → Option (ByteArray × Int × Int)
 | 0, _, _, _, _, _, _, _ => none
 | k + 1, x0, x12, x163000, x163001, x163002, x163003, x163004 => if x12 = true then (some ((⟨#[]⟩ : ByteArray), 0, 0)) else ((paymasterref07_LeafText.f k x163000 x163001 x163002 x163003 x163004).bind fun t166 => ((paymasterref07_Digest.f x0 t166).bind fun t167 => (some (t167, x163003, x163004))))
def paymasterref07_LeafNode.f (k : Nat) (a0 : Int) (a1_0 : Bool) (a1_1 : ByteArray) (a1_2 : ByteArray) (a1_3 : Int) (a1_4 : Int) : Option (ByteArray × Int × Int) := (paymasterref07_MayWidth.f a0).bind fun t164 => (if t164 = true then ((paymasterref07_MayLeaf.f k a1_0 a1_1 a1_2 a1_3 a1_4).bind fun t165 => (paymasterref07_LeafNode.j0 k a0 (!t165) a1_0 a1_1 a1_2 a1_3 a1_4)) else (paymasterref07_LeafNode.j0 k a0 true a1_0 a1_1 a1_2 a1_3 a1_4))
def paymasterref07_LeafNode.T3 : Bool × List (List Nat × List Nat) := (true, [([], []), ([], []), ([1], [1]), ([0, 2, 2], [0, 2]), ([], []), ([4], [4]), ([3, 5], [3, 5]), ([6, 3, 0, 1, 2, 3, 4, 5, 6], [6])])
def paymasterref07_LeafNode.B3 : List Nat := [0, 0, 2, 7, 0, 16, 63, 127]
theorem paymasterref07_LeafNode.tab3 : rtab .any (opsOf Tryd.f62 3) = paymasterref07_LeafNode.T3 := by kernel_rfl
theorem paymasterref07_LeafNode.bits3 : waitsOk paymasterref07_LeafNode.T3.2 paymasterref07_LeafNode.B3 = true := by kernel_rfl
set_option maxHeartbeats 8000000 in
set_option maxRecDepth 100000 in
theorem paymasterref07_LeafNode.calls (k : Nat) (a0 : Int) (a1_0 : Bool) (a1_1 : ByteArray) (a1_2 : ByteArray) (a1_3 : Int) (a1_4 : Int) (r1 : ByteArray) (r2 : Int) (r3 : Int) (w : World) (h : paymasterref07_LeafNode.f k a0 a1_0 a1_1 a1_2 a1_3 a1_4 = some (r1, r2, r3)) :
  Calls Tryd.prog 62 #[.int .i64 a0, .agg #[.bool a1_0, .string a1_1, .string a1_2, .int .u64 a1_3, .int .u64 a1_4]] w fun e w' => e = .returned (.agg #[.string r1, .int .u64 r2, .int .u64 r3]) ∧ Below w.heap.size w w' := by
 have hu59 := Tryd.underlying59
 have hu26 := Tryd.underlying26
 have hu24 := Tryd.underlying24
 have HB := Aside0.mk (Below.refl w.heap.size w)
 have H : ((paymasterref07_MayWidth.f a0).bind fun t164 => (if t164 = true then ((paymasterref07_MayLeaf.f k a1_0 a1_1 a1_2 a1_3 a1_4).bind fun t165 => (paymasterref07_LeafNode.j0 k a0 (!t165) a1_0 a1_1 a1_2 a1_3 a1_4)) else (paymasterref07_LeafNode.j0 k a0 true a1_0 a1_1 a1_2 a1_3 a1_4))) = some (r1, r2, r3) := h
 clear h
 have HC3 := Aside0.mk H
 clear H
 go_enter Tryd.func62, Tryd.ntmps62
 go_upto_region 1 with (first | ((with_reducible refine gate_dst (N := 3) rfl ?_); refine box_event ?hg (N := 3) ?hd (cs := #[.bool a1_0, .string a1_1, .string a1_2, .int .u64 a1_3, .int .u64 a1_4]) (t := 59) ?hr ?_; (case hd => rfl); (case hg => rfl); (case hr => first | (go_simp; done) | (go_simp; rfl)); intro gb162 hg w4 hbox hb; have n0_ := Aside0.mk (below_step (by repeat (first | (with_reducible first | exact HB.out | apply below_alloc | apply pw_below_drewN | apply below_drew1) | exact HB.out)) hb); have n1_ := Aside0.mk (hbox); have n2_ := Aside0.mk ((by rw [hg]; exact (below_size (by repeat (first | (with_reducible first | exact HB.out | apply below_alloc | apply pw_below_drewN | apply below_drew1) | exact HB.out))) : w.heap.size ≤ gb162)); have n3_ := Aside0.mk ((by rw [hg]; exact (below_size (by repeat (first | (with_reducible first | exact HB.out | apply below_alloc | apply pw_below_drewN | apply below_drew1) | exact HB.out))) : w.heap.size ≤ gb162)); clear HB; have HB := n0_; have BK162 := n1_; have GW162 := n2_; have GE162 := n3_; clear n0_ n1_ n2_ n3_; clear hb hbox hg) | ((with_reducible refine gate_dst (N := 4) rfl ?_); refine box_event ?hg (N := 4) ?hd (cs := #[.string (⟨#[]⟩ : ByteArray), .int .u64 0, .int .u64 0]) (t := 26) ?hr ?_; (case hd => rfl); (case hg => rfl); (case hr => first | (go_simp; done) | (go_simp; rfl)); intro gb163 hg w5 hbox hb; have n0_ := Aside0.mk (blk_below (g := gb162) (o := .cells #[.bool a1_0, .string a1_1, .string a1_2, .int .u64 a1_3, .int .u64 a1_4] 59 (0, 0)) (by (with_reducible repeat (first | refine blk_drewN ?_ _ | refine blk_drew ?_ | refine blk_alloc ?_ _)); exact BK162.out) hb); have n1_ := Aside0.mk (below_step (by repeat (first | (with_reducible first | exact HB.out | apply below_alloc | apply pw_below_drewN | apply below_drew1 | refine below_set ?_ GE162.out) | exact HB.out)) hb); have n2_ := Aside0.mk (hbox); have n3_ := Aside0.mk ((by rw [hg]; exact (below_size (by repeat (first | (with_reducible first | exact HB.out | apply below_alloc | apply pw_below_drewN | apply below_drew1 | refine below_set ?_ GE162.out) | exact HB.out))) : w.heap.size ≤ gb163)); have n4_ := Aside0.mk ((by rw [hg]; exact (below_size (by repeat (first | (with_reducible first | exact HB.out | apply below_alloc | apply pw_below_drewN | apply below_drew1 | refine below_set ?_ GE162.out) | exact HB.out))) : w.heap.size ≤ gb163)); have n5_ := Aside0.mk ((by rw [hg]; exact Nat.ne_of_lt (blk_lt (g := gb162) (o := .cells #[.bool a1_0, .string a1_1, .string a1_2, .int .u64 a1_3, .int .u64 a1_4] 59 (0, 0)) (by (with_reducible repeat (first | refine blk_drewN ?_ _ | refine blk_drew ?_ | refine blk_alloc ?_ _)); exact BK162.out)) : gb162 ≠ gb163)); have n6_ := Aside0.mk ((by rw [hg]; exact Nat.ne_of_gt (blk_lt (g := gb162) (o := .cells #[.bool a1_0, .string a1_1, .string a1_2, .int .u64 a1_3, .int .u64 a1_4] 59 (0, 0)) (by (with_reducible repeat (first | refine blk_drewN ?_ _ | refine blk_drew ?_ | refine blk_alloc ?_ _)); exact BK162.out)) : gb163 ≠ gb162)); clear BK162; clear HB; have BK162 := n0_; have HB := n1_; have BK163 := n2_; have GW163 := n3_; have GE163 := n4_; have NB162_163 := n5_; have NB163_162 := n6_; clear n0_ n1_ n2_ n3_ n4_ n5_ n6_; clear hb hbox hg))
 (try simp only [Act.put, List.setIfInBounds_toArray, List.set_cons_zero, List.set_cons_succ])
 go_cut [12] (fun v12 wc => ∃ (kq : Nat) (x12_2 : Bool), v12 = .bool x12_2 ∧ Aside0 (paymasterref07_LeafNode.j0 kq a0 x12_2 a1_0 a1_1 a1_2 a1_3 a1_4 = some (r1, r2, r3)) ∧ Aside0 (kq ≤ k) ∧ Aside0 (wc.heap[gb162]? = some (.cells #[.bool a1_0, .string a1_1, .string a1_2, .int .u64 a1_3, .int .u64 a1_4] 59 (0, 0))) ∧ Aside0 (wc.heap[gb163]? = some (.cells #[.string (⟨#[]⟩ : ByteArray), .int .u64 0, .int .u64 0] 26 (0, 0))) ∧ Aside0 (Below w.heap.size w wc))
 case first =>
  have H := HC3.out
  clear HC3
  replace H := Option.bind_eq_some_iff.mp H
  obtain ⟨t164, A60, H⟩ := H
  replace H : (if t164 = true then ((paymasterref07_MayLeaf.f k a1_0 a1_1 a1_2 a1_3 a1_4).bind fun t165 => (paymasterref07_LeafNode.j0 k a0 (!t165) a1_0 a1_1 a1_2 a1_3 a1_4)) else (paymasterref07_LeafNode.j0 k a0 true a1_0 a1_1 a1_2 a1_3 a1_4)) = some (r1, r2, r3) := H
  have A6 := Aside0.mk A60
  clear A60
  by_cases c7 : t164 = true
  ·
   subst c7
   have H1 : ((paymasterref07_MayLeaf.f k a1_0 a1_1 a1_2 a1_3 a1_4).bind fun t165 => (paymasterref07_LeafNode.j0 k a0 (!t165) a1_0 a1_1 a1_2 a1_3 a1_4)) = some (r1, r2, r3) := by rw [if_pos rfl] at H; exact H
   clear H
   have H := H1
   clear H1
   replace H := Option.bind_eq_some_iff.mp H
   obtain ⟨t165, A80, H⟩ := H
   replace H : (paymasterref07_LeafNode.j0 k a0 (!t165) a1_0 a1_1 a1_2 a1_3 a1_4) = some (r1, r2, r3) := H
   have A8 := Aside0.mk A80
   clear A80
   have H' := Aside0.mk H
   clear H
   go_wp2_with (first | ((with_reducible refine gate_callee (f := 79) rfl ?_); refine goesL_ (some 6) rfl rfl Tryd.func79 (by kernel_rfl) rfl #[.int .i64 a0] rfl (by (try simp only [List.map_toArray, List.map_cons, List.map_nil]); first | done | rfl | (simp only [List.length_drop, List.length_take]; rfl)) ?_; (with_reducible refine (paymasterref07_MayWidth.calls a0 true _ A6.out).mono ?_); rintro e w' ⟨rfl, ⟨nd, rfl⟩⟩; refine ⟨_, rfl, ?_⟩; have hnb9 := NB162_163.out; have hnc9 := NB163_162.out; have hcz10_0 : w5.cell? ⟨gb162, 0, none⟩ = some (.bool a1_0) := (blk_cell BK162.out 0).trans rfl; have hcz10_1 : w5.cell? ⟨gb162, 1, none⟩ = some (.string a1_1) := (blk_cell BK162.out 1).trans rfl; have hcz10_2 : w5.cell? ⟨gb162, 2, none⟩ = some (.string a1_2) := (blk_cell BK162.out 2).trans rfl; have hcz10_3 : w5.cell? ⟨gb162, 3, none⟩ = some (.int .u64 a1_3) := (blk_cell BK162.out 3).trans rfl; have hcz10_4 : w5.cell? ⟨gb162, 4, none⟩ = some (.int .u64 a1_4) := (blk_cell BK162.out 4).trans rfl; have hfz10_0 := blk_frozen BK162.out 0; have hfz10_1 := blk_frozen BK162.out 1; have hfz10_2 := blk_frozen BK162.out 2; have hfz10_3 := blk_frozen BK162.out 3; have hfz10_4 := blk_frozen BK162.out 4) | (go_at_call 60; (with_reducible refine (paymasterref07_MayLeaf.calls k a1_0 a1_1 a1_2 a1_3 a1_4 t165 _ A8.out).mono ?_); rintro e w11 ⟨rfl, hb⟩; have n0_ := Aside0.mk (blk_below (g := gb162) (o := .cells #[.bool a1_0, .string a1_1, .string a1_2, .int .u64 a1_3, .int .u64 a1_4] 59 (0, 0)) (by (with_reducible repeat (first | refine blk_drewN ?_ _ | refine blk_drew ?_ | refine blk_alloc ?_ _)); exact BK162.out) hb); have n1_ := Aside0.mk (blk_below (g := gb163) (o := .cells #[.string (⟨#[]⟩ : ByteArray), .int .u64 0, .int .u64 0] 26 (0, 0)) (by (with_reducible repeat (first | refine blk_drewN ?_ _ | refine blk_drew ?_ | refine blk_alloc ?_ _)); exact BK163.out) hb); have n2_ := Aside0.mk (below_step (by repeat (first | (with_reducible first | exact HB.out | apply below_alloc | apply pw_below_drewN | apply below_drew1 | refine below_set ?_ GE162.out | refine below_set ?_ GE163.out) | exact HB.out)) hb); clear BK162; clear BK163; clear HB; have BK162 := n0_; have BK163 := n1_; have HB := n2_; clear n0_ n1_ n2_; (try clear hb); (try clear hb2); (try clear hk); (try clear hi)))
   go_meet
   case rel => exact ⟨_, (!t165), (by first | rfl | (simp; done) | (simp [*]; done)), H', ⟨by first | omega | exact Nat.le_refl _⟩, ⟨by (with_reducible repeat (first | refine blk_drewN ?_ _ | refine blk_drew ?_ | refine blk_alloc ?_ _)); exact BK162.out⟩, ⟨by (with_reducible repeat (first | refine blk_drewN ?_ _ | refine blk_drew ?_ | refine blk_alloc ?_ _)); exact BK163.out⟩, ⟨by repeat (first | (with_reducible first | exact HB.out | apply below_alloc | apply pw_below_drewN | apply below_drew1 | refine below_set ?_ GE162.out | refine below_set ?_ GE163.out) | exact HB.out)⟩⟩
  ·
   replace c7 := Bool.eq_false_iff.mpr c7
   subst c7
   have H1 : (paymasterref07_LeafNode.j0 k a0 true a1_0 a1_1 a1_2 a1_3 a1_4) = some (r1, r2, r3) := by rw [if_neg (show ¬ (false = true) by decide)] at H; exact H
   clear H
   have H := H1
   clear H1
   have H' := Aside0.mk H
   clear H
   go_wp2_with (first | ((with_reducible refine gate_callee (f := 79) rfl ?_); refine goesL_ (some 6) rfl rfl Tryd.func79 (by kernel_rfl) rfl #[.int .i64 a0] rfl (by (try simp only [List.map_toArray, List.map_cons, List.map_nil]); first | done | rfl | (simp only [List.length_drop, List.length_take]; rfl)) ?_; (with_reducible refine (paymasterref07_MayWidth.calls a0 false _ A6.out).mono ?_); rintro e w' ⟨rfl, ⟨nd, rfl⟩⟩; refine ⟨_, rfl, ?_⟩))
   go_meet
   case rel => exact ⟨_, (true), (by first | rfl | (simp; done) | (simp [*]; done)), H', ⟨by first | omega | exact Nat.le_refl _⟩, ⟨by (with_reducible repeat (first | refine blk_drewN ?_ _ | refine blk_drew ?_ | refine blk_alloc ?_ _)); exact BK162.out⟩, ⟨by (with_reducible repeat (first | refine blk_drewN ?_ _ | refine blk_drew ?_ | refine blk_alloc ?_ _)); exact BK163.out⟩, ⟨by repeat (first | (with_reducible first | exact HB.out | apply below_alloc | apply pw_below_drewN | apply below_drew1 | refine below_set ?_ GE162.out | refine below_set ?_ GE163.out) | exact HB.out)⟩⟩
 case rest =>
  clear HC3
  try clear p2
  try clear c6
  try clear c7
  try clear c9
  try clear hcz10_0
  try clear hcz10_1
  try clear hcz10_2
  try clear hcz10_3
  try clear hcz10_4
  try clear hfz10_0
  try clear hfz10_1
  try clear hfz10_2
  try clear hfz10_3
  try clear hfz10_4
  obtain ⟨kq, x12_2, rfl, HA, HJ2, BK162, BK163, HB⟩ := hcut
  cases kq with
  | zero => exact absurd HA.out (by simp [paymasterref07_LeafNode.j0])
  | succ kj2 =>
   have H := HA.out
   clear HA
   simp only [paymasterref07_LeafNode.j0] at H
   by_cases c12 : x12_2 = true
   ·
    subst c12
    have H1 : (some ((⟨#[]⟩ : ByteArray), 0, 0)) = some (r1, r2, r3) := by rw [if_pos rfl] at H; exact H
    clear H
    have H := H1
    clear H1
    simp only [Option.some.injEq, Prod.mk.injEq] at H
    obtain ⟨rfl, rfl, rfl⟩ := H
    have hnb13 := NB163_162.out
    have hnc13 := NB162_163.out
    have hcz14_0 : wc.cell? ⟨gb163, 0, none⟩ = some (.string (⟨#[]⟩ : ByteArray)) := (blk_cell BK163.out 0).trans rfl
    have hcz14_1 : wc.cell? ⟨gb163, 1, none⟩ = some (.int .u64 0) := (blk_cell BK163.out 1).trans rfl
    have hcz14_2 : wc.cell? ⟨gb163, 2, none⟩ = some (.int .u64 0) := (blk_cell BK163.out 2).trans rfl
    have hfz14_0 := blk_frozen BK163.out 0
    have hfz14_1 := blk_frozen BK163.out 1
    have hfz14_2 := blk_frozen BK163.out 2
    go_wp2
    refine bodyPost_ret (results_cell_row rfl _ _ gb163 26 #[.string (⟨#[]⟩ : ByteArray), .int .u64 0, .int .u64 0] (0, 0) _ rfl (by (with_reducible repeat (first | refine blk_drewN ?_ _ | refine blk_drew ?_ | refine blk_alloc ?_ _)); refine blk_put (cs := #[.string (⟨#[]⟩ : ByteArray), .int .u64 0, .int .u64 0]) ?_ 2 _ rfl; (with_reducible repeat (first | refine blk_drewN ?_ _ | refine blk_drew ?_ | refine blk_alloc ?_ _)); refine blk_put (cs := #[.string (⟨#[]⟩ : ByteArray), .int .u64 0, .int .u64 0]) ?_ 1 _ rfl; (with_reducible repeat (first | refine blk_drewN ?_ _ | refine blk_drew ?_ | refine blk_alloc ?_ _)); refine blk_put (cs := #[.string (⟨#[]⟩ : ByteArray), .int .u64 0, .int .u64 0]) ?_ 0 _ rfl; (with_reducible repeat (first | refine blk_drewN ?_ _ | refine blk_drew ?_ | refine blk_alloc ?_ _)); exact BK163.out) Tryd.underlying26 rfl (by kernel_rfl)) rfl ?_
    exact ⟨by first | rfl | (simp [errW_none, errW_some] <;> rfl) | (simp [*, errW_none, errW_some] <;> rfl), by repeat (first | (with_reducible first | exact HB.out | apply below_alloc | apply pw_below_drewN | apply below_drew1 | refine below_set ?_ GE162.out | refine below_set ?_ GE163.out) | exact HB.out)⟩
   ·
    replace c12 := Bool.eq_false_iff.mpr c12
    subst c12
    have H1 : ((paymasterref07_LeafText.f kj2 a1_0 a1_1 a1_2 a1_3 a1_4).bind fun t166 => ((paymasterref07_Digest.f a0 t166).bind fun t167 => (some (t167, a1_3, a1_4)))) = some (r1, r2, r3) := by rw [if_neg (show ¬ (false = true) by decide)] at H; exact H
    clear H
    have H := H1
    clear H1
    replace H := Option.bind_eq_some_iff.mp H
    obtain ⟨t166, A150, H⟩ := H
    replace H : ((paymasterref07_Digest.f a0 t166).bind fun t167 => (some (t167, a1_3, a1_4))) = some (r1, r2, r3) := H
    have A15 := Aside0.mk A150
    clear A150
    replace H := Option.bind_eq_some_iff.mp H
    obtain ⟨t167, A160, H⟩ := H
    replace H : (some (t167, a1_3, a1_4)) = some (r1, r2, r3) := H
    have A16 := Aside0.mk A160
    clear A160
    simp only [Option.some.injEq, Prod.mk.injEq] at H
    obtain ⟨rfl, rfl, rfl⟩ := H
    try go_wp2
    have n0_ := Aside0.mk (blk_drew BK162.out)
    have n1_ := Aside0.mk (blk_drew BK163.out)
    have n2_ := Aside0.mk (below_drew1 HB.out)
    clear BK162
    clear BK163
    clear HB
    have BK162 := n0_
    have BK163 := n1_
    have HB := n2_
    clear n0_ n1_ n2_
    refine start_ (n := 8) (S := fun w' => w'.cell? ⟨gb162, 0, none⟩ = some (.bool a1_0) ∧ w'.cell? ⟨gb162, 1, none⟩ = some (.string a1_1) ∧ w'.cell? ⟨gb162, 2, none⟩ = some (.string a1_2) ∧ w'.cell? ⟨gb162, 3, none⟩ = some (.int .u64 a1_3) ∧ w'.cell? ⟨gb162, 4, none⟩ = some (.int .u64 a1_4)) (ds := []) #[false, false, false, false, false, false, false, false] (by kernel_rfl) rfl rfl ⟨(blk_cell BK162.out 0).trans rfl, (blk_cell BK162.out 1).trans rfl, (blk_cell BK162.out 2).trans rfl, (blk_cell BK162.out 3).trans rfl, (blk_cell BK162.out 4).trans rfl⟩ (fun hHeld => ?_); refine with_tabW paymasterref07_LeafNode.tab3 paymasterref07_LeafNode.bits3 (fun HT_ HW_ => ?_)
    generalize wc.drew = w17 at BK162 BK163 HB hHeld ⊢
    refine pure_ (i := 0) (N := some 14) (v := ?_) (a' := ?_) #[true, false, false, false, false, false, false, false] rfl rfl (any_of HT_.out (by kernel_rfl)) (fun _ _ _ h => h) (Or.inl ⟨by rfl, ?_⟩) ?_ ?_
    rotate_left
    ·
     intro w'
     go_simp
     with_reducible rfl
    rotate_left
    ·
     simp only [Act.put, List.setIfInBounds_toArray, List.set_cons_zero, List.set_cons_succ, i64_w, i32_w]
     rfl
    refine pure_ (i := 4) (N := some 18) (v := ?_) (a' := ?_) #[true, false, false, false, true, false, false, false] rfl rfl (any_of HT_.out (by kernel_rfl)) (fun _ _ _ h => h) (Or.inl ⟨by rfl, ?_⟩) ?_ ?_
    rotate_left
    ·
     intro w'
     go_simp
     with_reducible rfl
    rotate_left
    ·
     simp only [Act.put, List.setIfInBounds_toArray, List.set_cons_zero, List.set_cons_succ, i64_w, i32_w]
     rfl
    refine take_ (i := 1) (N := some 15) (v := ?_) (a' := ?_) #[true, true, false, false, true, false, false, false] rfl rfl (take_ofW HT_.out HW_.out (by kernel_rfl)) (fun _ _ _ h => h) (Or.inl ⟨by rfl, ?_⟩) hHeld ?_ ?_
    rotate_left
    ·
     rintro w' ⟨s0, s1, s2, s3, s4⟩
     go_simp
     with_reducible rfl
    rotate_left
    ·
     simp only [Act.put, List.setIfInBounds_toArray, List.set_cons_zero, List.set_cons_succ, i64_w, i32_w]
     rfl
    refine take_ (i := 5) (N := some 19) (v := ?_) (a' := ?_) #[true, true, false, false, true, true, false, false] rfl rfl (take_ofW HT_.out HW_.out (by kernel_rfl)) (fun _ _ _ h => h) (Or.inl ⟨by rfl, ?_⟩) hHeld ?_ ?_
    rotate_left
    ·
     rintro w' ⟨s0, s1, s2, s3, s4⟩
     go_simp
     with_reducible rfl
    rotate_left
    ·
     simp only [Act.put, List.setIfInBounds_toArray, List.set_cons_zero, List.set_cons_succ, i64_w, i32_w]
     rfl
    refine one_ (i := 2) (N := some 16) #[true, true, true, false, true, true, false, false] rfl rfl (one_of HT_.out (by kernel_rfl)) (by decide) (fun K hK => ?_)
    refine goes_ Tryd.func90 (by kernel_rfl) rfl #[.agg #[.bool a1_0, .string a1_1, .string a1_2, .int .u64 a1_3, .int .u64 a1_4]] (by rfl) rfl rfl (by (try simp only [List.map_toArray, List.map_cons, List.map_nil]); first | done | rfl | (simp only [List.length_drop, List.length_take]; rfl)) ?_
    with_reducible refine (paymasterref07_LeafText.calls kj2 a1_0 a1_1 a1_2 a1_3 a1_4 t166 _ A15.out).mono ?_
    rintro e w18 ⟨rfl, hb⟩
    refine ⟨_, rfl, ?_⟩
    have n0_ := Aside0.mk (blk_below (g := gb162) (o := .cells #[.bool a1_0, .string a1_1, .string a1_2, .int .u64 a1_3, .int .u64 a1_4] 59 (0, 0)) (by (with_reducible repeat (first | refine blk_drewN ?_ _ | refine blk_drew ?_ | refine blk_alloc ?_ _)); exact BK162.out) hb)
    have n1_ := Aside0.mk (blk_below (g := gb163) (o := .cells #[.string (⟨#[]⟩ : ByteArray), .int .u64 0, .int .u64 0] 26 (0, 0)) (by (with_reducible repeat (first | refine blk_drewN ?_ _ | refine blk_drew ?_ | refine blk_alloc ?_ _)); exact BK163.out) hb)
    have n2_ := Aside0.mk (below_step (by repeat (first | (with_reducible first | exact HB.out | apply below_alloc | apply pw_below_drewN | apply below_drew1 | refine below_set ?_ GE162.out | refine below_set ?_ GE163.out) | exact HB.out)) hb)
    clear BK162
    clear BK163
    clear HB
    have BK162 := n0_
    have BK163 := n1_
    have HB := n2_
    clear n0_ n1_ n2_
    (try clear hb)
    (try clear hb2)
    (try clear hk)
    (try clear hi)
    refine hK.out _ _ ⟨(blk_cell BK162.out 0).trans rfl, (blk_cell BK162.out 1).trans rfl, (blk_cell BK162.out 2).trans rfl, (blk_cell BK162.out 3).trans rfl, (blk_cell BK162.out 4).trans rfl⟩ (fun hHeld => ?_)
    clear hK K
    refine norm_ (a' := ?_) ?_ ?_
    rotate_left
    ·
     show Act.put _ (some 16) _ = _
     simp only [Act.put, List.setIfInBounds_toArray, List.set_cons_zero, List.set_cons_succ, i64_w, i32_w]
     rfl
    refine one_ (i := 3) (N := some 17) #[true, true, true, true, true, true, false, false] rfl rfl (one_of HT_.out (by kernel_rfl)) (by decide) (fun K hK => ?_)
    refine goes_ Tryd.func47 (by kernel_rfl) rfl #[.int .i64 a0, .string t166] (by rfl) rfl rfl (by (try simp only [List.map_toArray, List.map_cons, List.map_nil]); first | done | rfl | (simp only [List.length_drop, List.length_take]; rfl)) ?_
    with_reducible refine (paymasterref07_Digest.calls a0 t166 t167 _ A16.out).mono ?_
    rintro e w19 ⟨rfl, hb⟩
    refine ⟨_, rfl, ?_⟩
    have n0_ := Aside0.mk (blk_below (g := gb162) (o := .cells #[.bool a1_0, .string a1_1, .string a1_2, .int .u64 a1_3, .int .u64 a1_4] 59 (0, 0)) (by (with_reducible repeat (first | refine blk_drewN ?_ _ | refine blk_drew ?_ | refine blk_alloc ?_ _)); exact BK162.out) hb)
    have n1_ := Aside0.mk (blk_below (g := gb163) (o := .cells #[.string (⟨#[]⟩ : ByteArray), .int .u64 0, .int .u64 0] 26 (0, 0)) (by (with_reducible repeat (first | refine blk_drewN ?_ _ | refine blk_drew ?_ | refine blk_alloc ?_ _)); exact BK163.out) hb)
    have n2_ := Aside0.mk (below_step (by repeat (first | (with_reducible first | exact HB.out | apply below_alloc | apply pw_below_drewN | apply below_drew1 | refine below_set ?_ GE162.out | refine below_set ?_ GE163.out) | exact HB.out)) hb)
    clear BK162
    clear BK163
    clear HB
    have BK162 := n0_
    have BK163 := n1_
    have HB := n2_
    clear n0_ n1_ n2_
    (try clear hb)
    (try clear hb2)
    (try clear hk)
    (try clear hi)
    refine hK.out _ _ ⟨(blk_cell BK162.out 0).trans rfl, (blk_cell BK162.out 1).trans rfl, (blk_cell BK162.out 2).trans rfl, (blk_cell BK162.out 3).trans rfl, (blk_cell BK162.out 4).trans rfl⟩ (fun hHeld => ?_)
    clear hK K
    refine norm_ (a' := ?_) ?_ ?_
    rotate_left
    ·
     show Act.put _ (some 17) _ = _
     simp only [Act.put, List.setIfInBounds_toArray, List.set_cons_zero, List.set_cons_succ, i64_w, i32_w]
     rfl
    refine pure_ (i := 6) (N := some 20) (v := ?_) (a' := ?_) #[true, true, true, true, true, true, true, false] rfl rfl (any_of HT_.out (by kernel_rfl)) (fun _ _ _ h => h) (Or.inl ⟨by rfl, ?_⟩) ?_ ?_
    rotate_left
    ·
     intro w'
     go_simp
     with_reducible rfl
    rotate_left
    ·
     simp only [Act.put, List.setIfInBounds_toArray, List.set_cons_zero, List.set_cons_succ, i64_w, i32_w]
     rfl
    refine one_ (i := 7) (N := none) #[true, true, true, true, true, true, true, true] rfl rfl (one_of HT_.out (by kernel_rfl)) (by decide) (fun K hK => ?_)
    have hs20 : w19.cell? ⟨gb163, 0, none⟩ = some (.string (⟨#[]⟩ : ByteArray)) := (blk_cell BK163.out 0).trans rfl
    have hfs20 := blk_frozen BK163.out 0
    have hns20_0 := NB162_163.out
    have hms20_0 := NB163_162.out
    have hs21 : w19.cell? ⟨gb163, 1, none⟩ = some (.int .u64 0) := (blk_cell BK163.out 1).trans rfl
    have hfs21 := blk_frozen BK163.out 1
    have hns21_0 := NB162_163.out
    have hms21_0 := NB163_162.out
    have hs22 : w19.cell? ⟨gb163, 2, none⟩ = some (.int .u64 0) := (blk_cell BK163.out 2).trans rfl
    have hfs22 := blk_frozen BK163.out 2
    have hns22_0 := NB162_163.out
    have hms22_0 := NB163_162.out
    refine skip_ (w1 := ?_) (by rfl) rfl ?_ ?_
    rotate_left
    ·
     go_simp
     rfl
    refine hK.out _ _ ⟨((cell_far (p := ⟨gb163, _, none⟩) NB162_163.out _).trans (((cell_far (p := ⟨gb163, _, none⟩) NB162_163.out _).trans (((cell_far (p := ⟨gb163, _, none⟩) NB162_163.out _).trans (hHeld.1)))))), ((cell_far (p := ⟨gb163, _, none⟩) NB162_163.out _).trans (((cell_far (p := ⟨gb163, _, none⟩) NB162_163.out _).trans (((cell_far (p := ⟨gb163, _, none⟩) NB162_163.out _).trans (hHeld.2.1)))))), ((cell_far (p := ⟨gb163, _, none⟩) NB162_163.out _).trans (((cell_far (p := ⟨gb163, _, none⟩) NB162_163.out _).trans (((cell_far (p := ⟨gb163, _, none⟩) NB162_163.out _).trans (hHeld.2.2.1)))))), ((cell_far (p := ⟨gb163, _, none⟩) NB162_163.out _).trans (((cell_far (p := ⟨gb163, _, none⟩) NB162_163.out _).trans (((cell_far (p := ⟨gb163, _, none⟩) NB162_163.out _).trans (hHeld.2.2.2.1)))))), ((cell_far (p := ⟨gb163, _, none⟩) NB162_163.out _).trans (((cell_far (p := ⟨gb163, _, none⟩) NB162_163.out _).trans (((cell_far (p := ⟨gb163, _, none⟩) NB162_163.out _).trans (hHeld.2.2.2.2))))))⟩ (fun hHeld => ?_)
    clear hK K
    refine done_ (done_of HT_.out (by kernel_rfl)) ?_
    try go_wp2
    refine bodyPost_ret (results_cell_row rfl _ _ gb163 26 #[.string t167, .int .u64 a1_3, .int .u64 a1_4] (0, 0) _ rfl (by (with_reducible repeat (first | refine blk_drewN ?_ _ | refine blk_drew ?_ | refine blk_alloc ?_ _)); refine blk_put (cs := #[.string t167, .int .u64 a1_3, .int .u64 0]) ?_ 2 _ rfl; (with_reducible repeat (first | refine blk_drewN ?_ _ | refine blk_drew ?_ | refine blk_alloc ?_ _)); refine blk_put (cs := #[.string t167, .int .u64 0, .int .u64 0]) ?_ 1 _ rfl; (with_reducible repeat (first | refine blk_drewN ?_ _ | refine blk_drew ?_ | refine blk_alloc ?_ _)); refine blk_put (cs := #[.string (⟨#[]⟩ : ByteArray), .int .u64 0, .int .u64 0]) ?_ 0 _ rfl; (with_reducible repeat (first | refine blk_drewN ?_ _ | refine blk_drew ?_ | refine blk_alloc ?_ _)); exact BK163.out) Tryd.underlying26 rfl (by kernel_rfl)) rfl ?_
    exact ⟨by first | rfl | (simp [errW_none, errW_some] <;> rfl) | (simp [*, errW_none, errW_some] <;> rfl), by repeat (first | (with_reducible first | exact HB.out | apply below_alloc | apply pw_below_drewN | apply below_drew1 | refine below_set ?_ GE162.out | refine below_set ?_ GE163.out) | exact HB.out)⟩
end Go.Proofs.YtlmmpncdemblbaaDoor.P
namespace Go.Proofs.YtlmmpncdemblbaaDoor.P
open Go.RowKit Go.Proofs.YtlmmpncdemblbaaDoorW.PrintWords Go.Proofs.YtlmmpncdemblbaaDoorW.PrintLast Go.Proofs.YtlmmpncdemblbaaDoorW.PrintMore
attribute [local go_sem] max2_int min2_int max_two min_two max_three min_three max_four min_four-- for this text's walks alone
set_option linter.unusedVariables false
set_option linter.unusedSimpArgs false
/-! ### paymasterref16_Shape: function 61 -/
mutual
def paymasterref16_Shape.j0 : Nat → Int → Int → Bool → Int → List (SNode) → Option (Int)
 | 0, _, _, _, _, _ => none
 | k + 1, x0, x1, x13, x169000, x169001 => if x13 = true then (some 120) else (if x0 < 1 then (paymasterref16_Shape.j1 k x0 x1 true x169000 x169001) else (paymasterref16_Shape.j1 k x0 x1 (decide (x0 > 32)) x169000 x169001))
def paymasterref16_Shape.j1 : Nat → Int → Int → Bool → Int → List (SNode) → Option (Int)
 | 0, _, _, _, _, _ => none
 | k + 1, x0, x1, x19, x169000, x169001 => if x19 = true then (some 70) else (paymasterref16_Shape.l0 k x0 x1 0 x169000 x169001)
def paymasterref16_Shape.l0 : Nat → Int → Int → Int → Int → List (SNode) → Option (Int)
 | 0, _, _, _, _, _ => none
 | k + 1, x0, x1, x7, x169000, x169001 => if x7 < (x169001.length : Int) then (if 0 ≤ x7 then ((paymasterref14_Of.f x0 ((rd_TNode x169001 x7).f0) ((rd_TNode x169001 x7).f1.f0) ((rd_TNode x169001 x7).f1.f1)).bind fun t170 => (if t170 = true then (paymasterref16_Shape.l0 k x0 x1 (wrap64 (x7 + 1)) x169000 x169001) else (some 70))) else (none)) else (if (x169001.length : Int) = x1 then ((paymasterref16_Two.f k x1).bind fun t171 => (if x169000 ≥ t171 then (some 160) else (some 0))) else (some 160))
end
def paymasterref16_Shape.f (k : Nat) (a0 : Int) (a1 : Int) (a2_0 : Int) (l2_1 : List (SNode)) : Option (Int) := if a1 < 0 then (paymasterref16_Shape.j0 k a0 a1 true a2_0 l2_1) else (paymasterref16_Shape.j0 k a0 a1 (decide (a1 > 63)) a2_0 l2_1)
set_option maxHeartbeats 8000000 in
set_option maxRecDepth 100000 in
theorem paymasterref16_Shape.calls (k : Nat) (a0 : Int) (a1 : Int) (a2_0 : Int) (A2_1 : Option Addr) (c2_1 : Nat) (l2_1 : List (SNode)) (r : Int) (w : World) (hr2_1 : Kd.C kNode w A2_1 l2_1.length l2_1) (hc2_1 : l2_1.length ≤ c2_1) (h : paymasterref16_Shape.f k a0 a1 a2_0 l2_1 = some r) :
  Calls Tryd.prog 61 #[.int .i64 a0, .int .i64 a1, .agg #[.int .u64 a2_0, .slice A2_1 l2_1.length c2_1]] w fun e w' => e = .returned (.int .i64 r) ∧ Below w.heap.size w w' := by
 have hu61 := Tryd.underlying61
 have hu26 := Tryd.underlying26
 have HR2_1 := Aside0.mk hr2_1
 have HC2_1 := Aside0.mk hc2_1
 clear hr2_1 hc2_1
 have HB := Aside0.mk (Below.refl w.heap.size w)
 have H : (if a1 < 0 then (paymasterref16_Shape.j0 k a0 a1 true a2_0 l2_1) else (paymasterref16_Shape.j0 k a0 a1 (decide (a1 > 63)) a2_0 l2_1)) = some r := h
 clear h
 have HC4 := Aside0.mk H
 clear H
 go_enter Tryd.func61, Tryd.ntmps61
 go_upto_region 1 with (first | ((with_reducible refine gate_dst (N := 5) rfl ?_); refine box_event ?hg (N := 5) ?hd (cs := #[.int .u64 a2_0, .slice A2_1 l2_1.length c2_1]) (t := 61) ?hr ?_; (case hd => rfl); (case hg => rfl); (case hr => first | (go_simp; done) | (go_simp; rfl)); intro gb168 hg w5 hbox hb; have n0_ := Aside0.mk (below_step (by repeat (first | (with_reducible first | exact HB.out | apply below_alloc | apply pw_below_drewN | apply below_drew1) | exact HB.out)) hb); have n1_ := Aside0.mk (hbox); have n2_ := Aside0.mk ((by rw [hg]; exact (below_size (by repeat (first | (with_reducible first | exact HB.out | apply below_alloc | apply pw_below_drewN | apply below_drew1) | exact HB.out))) : w.heap.size ≤ gb168)); have n3_ := Aside0.mk ((by rw [hg]; exact (below_size (by repeat (first | (with_reducible first | exact HB.out | apply below_alloc | apply pw_below_drewN | apply below_drew1) | exact HB.out))) : w.heap.size ≤ gb168)); clear HB; have HB := n0_; have BK168 := n1_; have GW168 := n2_; have GE168 := n3_; clear n0_ n1_ n2_ n3_; clear hb hbox hg))
 repeat (go_quiet (first | ((with_reducible refine gate_dst (N := 5) rfl ?_); refine box_event ?hg (N := 5) ?hd (cs := #[.int .u64 a2_0, .slice A2_1 l2_1.length c2_1]) (t := 61) ?hr ?_; (case hd => rfl); (case hg => rfl); (case hr => first | (go_simp; done) | (go_simp; rfl)); intro gb168 hg w5 hbox hb; have n0_ := Aside0.mk (below_step (by repeat (first | (with_reducible first | exact HB.out | apply below_alloc | apply pw_below_drewN | apply below_drew1) | exact HB.out)) hb); have n1_ := Aside0.mk (hbox); have n2_ := Aside0.mk ((by rw [hg]; exact (below_size (by repeat (first | (with_reducible first | exact HB.out | apply below_alloc | apply pw_below_drewN | apply below_drew1) | exact HB.out))) : w.heap.size ≤ gb168)); have n3_ := Aside0.mk ((by rw [hg]; exact (below_size (by repeat (first | (with_reducible first | exact HB.out | apply below_alloc | apply pw_below_drewN | apply below_drew1) | exact HB.out))) : w.heap.size ≤ gb168)); clear HB; have HB := n0_; have BK168 := n1_; have GW168 := n2_; have GE168 := n3_; clear n0_ n1_ n2_ n3_; clear hb hbox hg)); go_upto_region 1 with (first | ((with_reducible refine gate_dst (N := 5) rfl ?_); refine box_event ?hg (N := 5) ?hd (cs := #[.int .u64 a2_0, .slice A2_1 l2_1.length c2_1]) (t := 61) ?hr ?_; (case hd => rfl); (case hg => rfl); (case hr => first | (go_simp; done) | (go_simp; rfl)); intro gb168 hg w5 hbox hb; have n0_ := Aside0.mk (below_step (by repeat (first | (with_reducible first | exact HB.out | apply below_alloc | apply pw_below_drewN | apply below_drew1) | exact HB.out)) hb); have n1_ := Aside0.mk (hbox); have n2_ := Aside0.mk ((by rw [hg]; exact (below_size (by repeat (first | (with_reducible first | exact HB.out | apply below_alloc | apply pw_below_drewN | apply below_drew1) | exact HB.out))) : w.heap.size ≤ gb168)); have n3_ := Aside0.mk ((by rw [hg]; exact (below_size (by repeat (first | (with_reducible first | exact HB.out | apply below_alloc | apply pw_below_drewN | apply below_drew1) | exact HB.out))) : w.heap.size ≤ gb168)); clear HB; have HB := n0_; have BK168 := n1_; have GW168 := n2_; have GE168 := n3_; clear n0_ n1_ n2_ n3_; clear hb hbox hg)))
 (try simp only [Act.put, List.setIfInBounds_toArray, List.set_cons_zero, List.set_cons_succ])
 go_cut [13] (fun v13 wc => ∃ (kq : Nat) (x13_3 : Bool), v13 = .bool x13_3 ∧ Aside0 (paymasterref16_Shape.j0 kq a0 a1 x13_3 a2_0 l2_1 = some r) ∧ Aside0 (kq ≤ k) ∧ Aside0 (wc.heap[gb168]? = some (.cells #[.int .u64 a2_0, (.slice A2_1 l2_1.length c2_1)] 61 (0, 0))) ∧ Aside0 (Below w.heap.size w wc))
 case first =>
  have H := HC4.out
  clear HC4
  by_cases c6 : a1 < 0
  ·
   rw [if_pos c6] at H
   have c6b0 : decide (a1 < 0) = true := decide_eq_true c6
   clear c6
   (first | rw [c6b0] | (simp only [i64_w, i32_w]; rw [c6b0]) | skip)
   have H' := Aside0.mk H
   clear H
   go_wp2
   repeat (go_quiet (fail); try go_wp2)
   go_meet
   case rel => exact ⟨_, (true), (by first | rfl | (simp; done) | (simp [*]; done)), H', ⟨by first | omega | exact Nat.le_refl _⟩, ⟨by (with_reducible repeat (first | refine blk_drewN ?_ _ | refine blk_drew ?_ | refine blk_alloc ?_ _)); exact BK168.out⟩, ⟨by repeat (first | (with_reducible first | exact HB.out | apply below_alloc | apply pw_below_drewN | apply below_drew1 | refine below_set ?_ GE168.out) | exact HB.out)⟩⟩
  ·
   rw [if_neg c6] at H
   have c6b0 : decide (a1 < 0) = false := decide_eq_false c6
   clear c6
   (first | rw [c6b0] | (simp only [i64_w, i32_w]; rw [c6b0]) | skip)
   have H' := Aside0.mk H
   clear H
   go_wp2
   repeat (go_quiet (fail); try go_wp2)
   go_meet
   case rel => exact ⟨_, (decide (a1 > 63)), (by first | rfl | (simp; done) | (simp [*]; done)), H', ⟨by first | omega | exact Nat.le_refl _⟩, ⟨by (with_reducible repeat (first | refine blk_drewN ?_ _ | refine blk_drew ?_ | refine blk_alloc ?_ _)); exact BK168.out⟩, ⟨by repeat (first | (with_reducible first | exact HB.out | apply below_alloc | apply pw_below_drewN | apply below_drew1 | refine below_set ?_ GE168.out) | exact HB.out)⟩⟩
 case rest =>
  clear HC4
  try clear c2
  try clear p2
  try clear c6
  try clear c6b0
  obtain ⟨kq, x13_3, rfl, HA, HJ3, BK168, HB⟩ := hcut
  cases kq with
  | zero => exact absurd HA.out (by simp [paymasterref16_Shape.j0])
  | succ kj3 =>
   have H := HA.out
   clear HA
   simp only [paymasterref16_Shape.j0] at H
   by_cases c7 : x13_3 = true
   ·
    subst c7
    have H1 : (some 120) = some r := by rw [if_pos rfl] at H; exact H
    clear H
    have H := H1
    clear H1
    obtain rfl := Option.some.inj H
    go_wp2
    repeat (go_quiet (fail); try go_wp2)
    go_ret
    exact ⟨by first | rfl | (simp [errW_none, errW_some] <;> rfl) | (simp [*, errW_none, errW_some] <;> rfl), by repeat (first | (with_reducible first | exact HB.out | apply below_alloc | apply pw_below_drewN | apply below_drew1 | refine below_set ?_ GE168.out) | exact HB.out)⟩
   ·
    replace c7 := Bool.eq_false_iff.mpr c7
    subst c7
    have H1 : (if a0 < 1 then (paymasterref16_Shape.j1 kj3 a0 a1 true a2_0 l2_1) else (paymasterref16_Shape.j1 kj3 a0 a1 (decide (a0 > 32)) a2_0 l2_1)) = some r := by rw [if_neg (show ¬ (false = true) by decide)] at H; exact H
    clear H
    have H := H1
    clear H1
    have HC8 := Aside0.mk H
    clear H
    go_upto_region 3 with (fail)
    repeat (go_quiet (fail); go_upto_region 3 with (fail))
    go_cut [19] (fun v19 wc => ∃ (kq : Nat) (x19_7 : Bool), v19 = .bool x19_7 ∧ Aside0 (paymasterref16_Shape.j1 kq a0 a1 x19_7 a2_0 l2_1 = some r) ∧ Aside0 (kq ≤ kj3) ∧ Aside0 (wc.heap[gb168]? = some (.cells #[.int .u64 a2_0, (.slice A2_1 l2_1.length c2_1)] 61 (0, 0))) ∧ Aside0 (Below w.heap.size w wc))
    case first =>
     have H := HC8.out
     clear HC8
     by_cases c9 : a0 < 1
     ·
      rw [if_pos c9] at H
      have c9b0 : decide (a0 < 1) = true := decide_eq_true c9
      clear c9
      (first | rw [c9b0] | (simp only [i64_w, i32_w]; rw [c9b0]) | skip)
      have H' := Aside0.mk H
      clear H
      go_wp2
      repeat (go_quiet (fail); try go_wp2)
      go_meet
      case rel => exact ⟨_, (true), (by first | rfl | (simp; done) | (simp [*]; done)), H', ⟨by have := HJ3.out; first | omega | exact Nat.le_refl _⟩, ⟨by (with_reducible repeat (first | refine blk_drewN ?_ _ | refine blk_drew ?_ | refine blk_alloc ?_ _)); exact BK168.out⟩, ⟨by repeat (first | (with_reducible first | exact HB.out | apply below_alloc | apply pw_below_drewN | apply below_drew1 | refine below_set ?_ GE168.out) | exact HB.out)⟩⟩
     ·
      rw [if_neg c9] at H
      have c9b0 : decide (a0 < 1) = false := decide_eq_false c9
      clear c9
      (first | rw [c9b0] | (simp only [i64_w, i32_w]; rw [c9b0]) | skip)
      have H' := Aside0.mk H
      clear H
      go_wp2
      repeat (go_quiet (fail); try go_wp2)
      go_meet
      case rel => exact ⟨_, (decide (a0 > 32)), (by first | rfl | (simp; done) | (simp [*]; done)), H', ⟨by have := HJ3.out; first | omega | exact Nat.le_refl _⟩, ⟨by (with_reducible repeat (first | refine blk_drewN ?_ _ | refine blk_drew ?_ | refine blk_alloc ?_ _)); exact BK168.out⟩, ⟨by repeat (first | (with_reducible first | exact HB.out | apply below_alloc | apply pw_below_drewN | apply below_drew1 | refine below_set ?_ GE168.out) | exact HB.out)⟩⟩
    case rest =>
     clear HC8
     try clear c2
     try clear p2
     try clear c6
     try clear c6b0
     try clear c7
     try clear c9
     try clear c9b0
     try clear p2
     obtain ⟨kq, x19_7, rfl, HA, HJ7, BK168, HB⟩ := hcut
     cases kq with
     | zero => exact absurd HA.out (by simp [paymasterref16_Shape.j1])
     | succ kj7 =>
      have H := HA.out
      clear HA
      simp only [paymasterref16_Shape.j1] at H
      by_cases c10 : x19_7 = true
      ·
       subst c10
       have H1 : (some 70) = some r := by rw [if_pos rfl] at H; exact H
       clear H
       have H := H1
       clear H1
       obtain rfl := Option.some.inj H
       go_wp2
       repeat (go_quiet (fail); try go_wp2)
       go_ret
       exact ⟨by first | rfl | (simp [errW_none, errW_some] <;> rfl) | (simp [*, errW_none, errW_some] <;> rfl), by repeat (first | (with_reducible first | exact HB.out | apply below_alloc | apply pw_below_drewN | apply below_drew1 | refine below_set ?_ GE168.out) | exact HB.out)⟩
      ·
       replace c10 := Bool.eq_false_iff.mpr c10
       subst c10
       have H1 : (paymasterref16_Shape.l0 kj7 a0 a1 0 a2_0 l2_1) = some r := by rw [if_neg (show ¬ (false = true) by decide)] at H; exact H
       clear H
       have H := H1
       clear H1
       have H' := Aside0.mk H
       clear H
       go_wp2
       repeat (go_quiet (fail); try go_wp2)
       go_loopg [7] kj7 (fun kq v7 w' => ∃ (x7_3 : Int), v7 = .int .i64 x7_3 ∧ Aside0 (paymasterref16_Shape.l0 kq a0 a1 x7_3 a2_0 l2_1 = some r) ∧ Aside0 (kq ≤ kj7) ∧ Aside0 (w'.heap[gb168]? = some (.cells #[.int .u64 a2_0, (.slice A2_1 l2_1.length c2_1)] 61 (0, 0))) ∧ Aside0 (Below w.heap.size w w'))
       case atStart => exact ⟨(0), (by first | rfl | (simp; done) | (simp [*]; done)), H', ⟨Nat.le_refl _⟩, ⟨by (with_reducible repeat (first | refine blk_drewN ?_ _ | refine blk_drew ?_ | refine blk_alloc ?_ _)); exact BK168.out⟩, ⟨by repeat (first | (with_reducible first | exact HB.out | apply below_alloc | apply pw_below_drewN | apply below_drew1 | refine below_set ?_ GE168.out) | exact HB.out)⟩⟩
       case round =>
        clear H'
        try clear c1
        try clear c2
        try clear p2
        try clear c6
        try clear c6b0
        try clear c7
        try clear c9
        try clear c9b0
        try clear c10
        try clear p2
        obtain ⟨x7_3, rfl, HA, HK3, BK168, HB⟩ := hrel
        cases gk with
        | zero => exact absurd HA.out (by simp [paymasterref16_Shape.l0])
        | succ k3 =>
         have H := HA.out
         clear HA
         simp only [paymasterref16_Shape.l0] at H
         by_cases c11 : x7_3 < (l2_1.length : Int)
         ·
          rw [if_pos c11] at H
          have c11b0 : decide (x7_3 < (l2_1.length : Int)) = true := decide_eq_true c11
          clear c11
          by_cases c12 : 0 ≤ x7_3
          ·
           rw [if_pos c12] at H
           have c12b0 : decide (0 ≤ x7_3) = true := decide_eq_true c12
           clear c12
           replace H := Option.bind_eq_some_iff.mp H
           obtain ⟨t170, A130, H⟩ := H
           replace H : (if t170 = true then (paymasterref16_Shape.l0 k3 a0 a1 (wrap64 (x7_3 + 1)) a2_0 l2_1) else (some 70)) = some r := H
           have A13 := Aside0.mk A130
           clear A130
           by_cases c14 : t170 = true
           ·
            subst c14
            have H1 : (paymasterref16_Shape.l0 k3 a0 a1 (wrap64 (x7_3 + 1)) a2_0 l2_1) = some r := by rw [if_pos rfl] at H; exact H
            clear H
            have H := H1
            clear H1
            have H' := Aside0.mk H
            clear H
            have hcz15_0 : wr.cell? ⟨gb168, 0, none⟩ = some (.int .u64 a2_0) := (blk_cell BK168.out 0).trans rfl
            have hcz15_1 : wr.cell? ⟨gb168, 1, none⟩ = some (.slice A2_1 l2_1.length c2_1) := (blk_cell BK168.out 1).trans rfl
            have hfz15_0 := blk_frozen BK168.out 0
            have hfz15_1 := blk_frozen BK168.out 1
            have p169 : 0 ≤ (x7_3 : Int) := of_decide_eq_true (by first | (with_reducible assumption) | assumption)
            have q169 : x7_3 < (l2_1.length : Int) := of_decide_eq_true (by first | (with_reducible assumption) | assumption)
            obtain ⟨ad169, e169, hx169_0, hx169_1, hx169_2⟩ := at_TNode HR2_1.out x7_3 p169 q169
            cases e169
            replace hx169_0 := (HB.out.cell (World.block_lt_of_cell? w _ hx169_0)).trans hx169_0
            replace hx169_1 := (HB.out.cell (World.block_lt_of_cell? w _ hx169_1)).trans hx169_1
            replace hx169_2 := (HB.out.cell (World.block_lt_of_cell? w _ hx169_2)).trans hx169_2
            replace p169 := eq_true p169
            replace q169 := eq_true q169
            go_wp2_with (first | (go_at_call 36; (with_reducible refine (paymasterref14_Of.calls a0 ((rd_TNode l2_1 x7_3).f0) ((rd_TNode l2_1 x7_3).f1.f0) ((rd_TNode l2_1 x7_3).f1.f1) true _ A13.out).mono ?_); rintro e w16 ⟨rfl, hb⟩; have n0_ := Aside0.mk (blk_below (g := gb168) (o := .cells #[.int .u64 a2_0, .slice (some ad169) l2_1.length c2_1] 61 (0, 0)) (by (with_reducible repeat (first | refine blk_drewN ?_ _ | refine blk_drew ?_ | refine blk_alloc ?_ _)); exact BK168.out) hb); have n1_ := Aside0.mk (below_step (by repeat (first | (with_reducible first | exact HB.out | apply below_alloc | apply pw_below_drewN | apply below_drew1 | refine below_set ?_ GE168.out) | exact HB.out)) hb); clear BK168; clear HB; have BK168 := n0_; have HB := n1_; clear n0_ n1_; (try clear hb); (try clear hb2); (try clear hk); (try clear hi)))
            repeat (go_quiet (first | (go_at_call 36; (with_reducible refine (paymasterref14_Of.calls a0 ((rd_TNode l2_1 x7_3).f0) ((rd_TNode l2_1 x7_3).f1.f0) ((rd_TNode l2_1 x7_3).f1.f1) true _ A13.out).mono ?_); rintro e w16 ⟨rfl, hb⟩; have n0_ := Aside0.mk (blk_below (g := gb168) (o := .cells #[.int .u64 a2_0, .slice (some ad169) l2_1.length c2_1] 61 (0, 0)) (by (with_reducible repeat (first | refine blk_drewN ?_ _ | refine blk_drew ?_ | refine blk_alloc ?_ _)); exact BK168.out) hb); have n1_ := Aside0.mk (below_step (by repeat (first | (with_reducible first | exact HB.out | apply below_alloc | apply pw_below_drewN | apply below_drew1 | refine below_set ?_ GE168.out) | exact HB.out)) hb); clear BK168; clear HB; have BK168 := n0_; have HB := n1_; clear n0_ n1_; (try clear hb); (try clear hb2); (try clear hk); (try clear hi))); try go_wp2_with (first | (go_at_call 36; (with_reducible refine (paymasterref14_Of.calls a0 ((rd_TNode l2_1 x7_3).f0) ((rd_TNode l2_1 x7_3).f1.f0) ((rd_TNode l2_1 x7_3).f1.f1) true _ A13.out).mono ?_); rintro e w16 ⟨rfl, hb⟩; have n0_ := Aside0.mk (blk_below (g := gb168) (o := .cells #[.int .u64 a2_0, .slice (some ad169) l2_1.length c2_1] 61 (0, 0)) (by (with_reducible repeat (first | refine blk_drewN ?_ _ | refine blk_drew ?_ | refine blk_alloc ?_ _)); exact BK168.out) hb); have n1_ := Aside0.mk (below_step (by repeat (first | (with_reducible first | exact HB.out | apply below_alloc | apply pw_below_drewN | apply below_drew1 | refine below_set ?_ GE168.out) | exact HB.out)) hb); clear BK168; clear HB; have BK168 := n0_; have HB := n1_; clear n0_ n1_; (try clear hb); (try clear hb2); (try clear hk); (try clear hi))))
            go_roundg k3
            case measure => have := HJ3.out; have := HJ7.out; have := HK3.out; omega
            case rel => exact ⟨(wrap64 (x7_3 + 1)), (by first | rfl | (simp; done) | (simp [*]; done)), H', ⟨by have := HJ3.out; have := HJ7.out; have := HK3.out; omega⟩, ⟨by (with_reducible repeat (first | refine blk_drewN ?_ _ | refine blk_drew ?_ | refine blk_alloc ?_ _)); exact BK168.out⟩, ⟨by repeat (first | (with_reducible first | exact HB.out | apply below_alloc | apply pw_below_drewN | apply below_drew1 | refine below_set ?_ GE168.out) | exact HB.out)⟩⟩
           ·
            replace c14 := Bool.eq_false_iff.mpr c14
            subst c14
            have H1 : (some 70) = some r := by rw [if_neg (show ¬ (false = true) by decide)] at H; exact H
            clear H
            have H := H1
            clear H1
            obtain rfl := Option.some.inj H
            have hcz17_0 : wr.cell? ⟨gb168, 0, none⟩ = some (.int .u64 a2_0) := (blk_cell BK168.out 0).trans rfl
            have hcz17_1 : wr.cell? ⟨gb168, 1, none⟩ = some (.slice A2_1 l2_1.length c2_1) := (blk_cell BK168.out 1).trans rfl
            have hfz17_0 := blk_frozen BK168.out 0
            have hfz17_1 := blk_frozen BK168.out 1
            have p169 : 0 ≤ (x7_3 : Int) := of_decide_eq_true (by first | (with_reducible assumption) | assumption)
            have q169 : x7_3 < (l2_1.length : Int) := of_decide_eq_true (by first | (with_reducible assumption) | assumption)
            obtain ⟨ad169, e169, hx169_0, hx169_1, hx169_2⟩ := at_TNode HR2_1.out x7_3 p169 q169
            cases e169
            replace hx169_0 := (HB.out.cell (World.block_lt_of_cell? w _ hx169_0)).trans hx169_0
            replace hx169_1 := (HB.out.cell (World.block_lt_of_cell? w _ hx169_1)).trans hx169_1
            replace hx169_2 := (HB.out.cell (World.block_lt_of_cell? w _ hx169_2)).trans hx169_2
            replace p169 := eq_true p169
            replace q169 := eq_true q169
            go_wp2_with (first | (go_at_call 36; (with_reducible refine (paymasterref14_Of.calls a0 ((rd_TNode l2_1 x7_3).f0) ((rd_TNode l2_1 x7_3).f1.f0) ((rd_TNode l2_1 x7_3).f1.f1) false _ A13.out).mono ?_); rintro e w18 ⟨rfl, hb⟩; have n0_ := Aside0.mk (blk_below (g := gb168) (o := .cells #[.int .u64 a2_0, .slice (some ad169) l2_1.length c2_1] 61 (0, 0)) (by (with_reducible repeat (first | refine blk_drewN ?_ _ | refine blk_drew ?_ | refine blk_alloc ?_ _)); exact BK168.out) hb); have n1_ := Aside0.mk (below_step (by repeat (first | (with_reducible first | exact HB.out | apply below_alloc | apply pw_below_drewN | apply below_drew1 | refine below_set ?_ GE168.out) | exact HB.out)) hb); clear BK168; clear HB; have BK168 := n0_; have HB := n1_; clear n0_ n1_; (try clear hb); (try clear hb2); (try clear hk); (try clear hi)))
            repeat (go_quiet (first | (go_at_call 36; (with_reducible refine (paymasterref14_Of.calls a0 ((rd_TNode l2_1 x7_3).f0) ((rd_TNode l2_1 x7_3).f1.f0) ((rd_TNode l2_1 x7_3).f1.f1) false _ A13.out).mono ?_); rintro e w18 ⟨rfl, hb⟩; have n0_ := Aside0.mk (blk_below (g := gb168) (o := .cells #[.int .u64 a2_0, .slice (some ad169) l2_1.length c2_1] 61 (0, 0)) (by (with_reducible repeat (first | refine blk_drewN ?_ _ | refine blk_drew ?_ | refine blk_alloc ?_ _)); exact BK168.out) hb); have n1_ := Aside0.mk (below_step (by repeat (first | (with_reducible first | exact HB.out | apply below_alloc | apply pw_below_drewN | apply below_drew1 | refine below_set ?_ GE168.out) | exact HB.out)) hb); clear BK168; clear HB; have BK168 := n0_; have HB := n1_; clear n0_ n1_; (try clear hb); (try clear hb2); (try clear hk); (try clear hi))); try go_wp2_with (first | (go_at_call 36; (with_reducible refine (paymasterref14_Of.calls a0 ((rd_TNode l2_1 x7_3).f0) ((rd_TNode l2_1 x7_3).f1.f0) ((rd_TNode l2_1 x7_3).f1.f1) false _ A13.out).mono ?_); rintro e w18 ⟨rfl, hb⟩; have n0_ := Aside0.mk (blk_below (g := gb168) (o := .cells #[.int .u64 a2_0, .slice (some ad169) l2_1.length c2_1] 61 (0, 0)) (by (with_reducible repeat (first | refine blk_drewN ?_ _ | refine blk_drew ?_ | refine blk_alloc ?_ _)); exact BK168.out) hb); have n1_ := Aside0.mk (below_step (by repeat (first | (with_reducible first | exact HB.out | apply below_alloc | apply pw_below_drewN | apply below_drew1 | refine below_set ?_ GE168.out) | exact HB.out)) hb); clear BK168; clear HB; have BK168 := n0_; have HB := n1_; clear n0_ n1_; (try clear hb); (try clear hb2); (try clear hk); (try clear hi))))
            go_ret
            exact ⟨by first | rfl | (simp [errW_none, errW_some] <;> rfl) | (simp [*, errW_none, errW_some] <;> rfl), by repeat (first | (with_reducible first | exact HB.out | apply below_alloc | apply pw_below_drewN | apply below_drew1 | refine below_set ?_ GE168.out) | exact HB.out)⟩
          ·
           rw [if_neg c12] at H
           exact absurd H (by simp)
         ·
          rw [if_neg c11] at H
          have c11b0 : decide (x7_3 < (l2_1.length : Int)) = false := decide_eq_false c11
          clear c11
          by_cases c19 : (l2_1.length : Int) = a1
          ·
           rw [if_pos c19] at H
           have c19b0 : ((l2_1.length : Int) == a1) = true := beq_iff_eq.mpr c19
           have c19b1 : ((l2_1.length : Int) != a1) = false := bne_eq_false_iff_eq.mpr c19
           clear c19
           replace H := Option.bind_eq_some_iff.mp H
           obtain ⟨t171, A200, H⟩ := H
           replace H : (if a2_0 ≥ t171 then (some 160) else (some 0)) = some r := H
           have A20 := Aside0.mk A200
           clear A200
           by_cases c21 : a2_0 ≥ t171
           ·
            rw [if_pos c21] at H
            have c21b0 : decide (t171 ≤ a2_0) = true := decide_eq_true c21
            clear c21
            obtain rfl := Option.some.inj H
            have hcz22_0 : wr.cell? ⟨gb168, 0, none⟩ = some (.int .u64 a2_0) := (blk_cell BK168.out 0).trans rfl
            have hcz22_1 : wr.cell? ⟨gb168, 1, none⟩ = some (.slice A2_1 l2_1.length c2_1) := (blk_cell BK168.out 1).trans rfl
            have hfz22_0 := blk_frozen BK168.out 0
            have hfz22_1 := blk_frozen BK168.out 1
            go_wp2_with (first | (go_at_call 89; (with_reducible refine (paymasterref16_Two.calls k3 a1 t171 _ A20.out).mono ?_); rintro e w' ⟨rfl, ⟨nd, rfl⟩⟩; (try first | exact ⟨rfl, _, World.drewN_drewN _ _ _⟩ | exact ⟨rfl, _, Eq.trans (World.drewN_drewN _ _ _) (congrArg (World.drewN _) (Nat.add_assoc _ _ _))⟩)))
            repeat (go_quiet (first | (go_at_call 89; (with_reducible refine (paymasterref16_Two.calls k3 a1 t171 _ A20.out).mono ?_); rintro e w' ⟨rfl, ⟨nd, rfl⟩⟩; (try first | exact ⟨rfl, _, World.drewN_drewN _ _ _⟩ | exact ⟨rfl, _, Eq.trans (World.drewN_drewN _ _ _) (congrArg (World.drewN _) (Nat.add_assoc _ _ _))⟩))); try go_wp2_with (first | (go_at_call 89; (with_reducible refine (paymasterref16_Two.calls k3 a1 t171 _ A20.out).mono ?_); rintro e w' ⟨rfl, ⟨nd, rfl⟩⟩; (try first | exact ⟨rfl, _, World.drewN_drewN _ _ _⟩ | exact ⟨rfl, _, Eq.trans (World.drewN_drewN _ _ _) (congrArg (World.drewN _) (Nat.add_assoc _ _ _))⟩))))
            go_ret
            exact ⟨by first | rfl | (simp [errW_none, errW_some] <;> rfl) | (simp [*, errW_none, errW_some] <;> rfl), by repeat (first | (with_reducible first | exact HB.out | apply below_alloc | apply pw_below_drewN | apply below_drew1 | refine below_set ?_ GE168.out) | exact HB.out)⟩
           ·
            rw [if_neg c21] at H
            have c21b0 : decide (t171 ≤ a2_0) = false := decide_eq_false c21
            clear c21
            obtain rfl := Option.some.inj H
            have hcz23_0 : wr.cell? ⟨gb168, 0, none⟩ = some (.int .u64 a2_0) := (blk_cell BK168.out 0).trans rfl
            have hcz23_1 : wr.cell? ⟨gb168, 1, none⟩ = some (.slice A2_1 l2_1.length c2_1) := (blk_cell BK168.out 1).trans rfl
            have hfz23_0 := blk_frozen BK168.out 0
            have hfz23_1 := blk_frozen BK168.out 1
            go_wp2_with (first | (go_at_call 89; (with_reducible refine (paymasterref16_Two.calls k3 a1 t171 _ A20.out).mono ?_); rintro e w' ⟨rfl, ⟨nd, rfl⟩⟩; (try first | exact ⟨rfl, _, World.drewN_drewN _ _ _⟩ | exact ⟨rfl, _, Eq.trans (World.drewN_drewN _ _ _) (congrArg (World.drewN _) (Nat.add_assoc _ _ _))⟩)))
            repeat (go_quiet (first | (go_at_call 89; (with_reducible refine (paymasterref16_Two.calls k3 a1 t171 _ A20.out).mono ?_); rintro e w' ⟨rfl, ⟨nd, rfl⟩⟩; (try first | exact ⟨rfl, _, World.drewN_drewN _ _ _⟩ | exact ⟨rfl, _, Eq.trans (World.drewN_drewN _ _ _) (congrArg (World.drewN _) (Nat.add_assoc _ _ _))⟩))); try go_wp2_with (first | (go_at_call 89; (with_reducible refine (paymasterref16_Two.calls k3 a1 t171 _ A20.out).mono ?_); rintro e w' ⟨rfl, ⟨nd, rfl⟩⟩; (try first | exact ⟨rfl, _, World.drewN_drewN _ _ _⟩ | exact ⟨rfl, _, Eq.trans (World.drewN_drewN _ _ _) (congrArg (World.drewN _) (Nat.add_assoc _ _ _))⟩))))
            go_ret
            exact ⟨by first | rfl | (simp [errW_none, errW_some] <;> rfl) | (simp [*, errW_none, errW_some] <;> rfl), by repeat (first | (with_reducible first | exact HB.out | apply below_alloc | apply pw_below_drewN | apply below_drew1 | refine below_set ?_ GE168.out) | exact HB.out)⟩
          ·
           rw [if_neg c19] at H
           have c19b0 : ((l2_1.length : Int) == a1) = false := beq_eq_false_iff_ne.mpr c19
           have c19b1 : ((l2_1.length : Int) != a1) = true := bne_iff_ne.mpr c19
           obtain rfl := Option.some.inj H
           have hcz24_0 : wr.cell? ⟨gb168, 0, none⟩ = some (.int .u64 a2_0) := (blk_cell BK168.out 0).trans rfl
           have hcz24_1 : wr.cell? ⟨gb168, 1, none⟩ = some (.slice A2_1 l2_1.length c2_1) := (blk_cell BK168.out 1).trans rfl
           have hfz24_0 := blk_frozen BK168.out 0
           have hfz24_1 := blk_frozen BK168.out 1
           go_wp2
           repeat (go_quiet (fail); try go_wp2)
           go_ret
           exact ⟨by first | rfl | (simp [errW_none, errW_some] <;> rfl) | (simp [*, errW_none, errW_some] <;> rfl), by repeat (first | (with_reducible first | exact HB.out | apply below_alloc | apply pw_below_drewN | apply below_drew1 | refine below_set ?_ GE168.out) | exact HB.out)⟩
end Go.Proofs.YtlmmpncdemblbaaDoor.P
namespace Go.Proofs.YtlmmpncdemblbaaDoor.P
open Go.RowKit Go.Proofs.YtlmmpncdemblbaaDoorW.PrintWords Go.Proofs.YtlmmpncdemblbaaDoorW.PrintLast Go.Proofs.YtlmmpncdemblbaaDoorW.PrintMore
set_option linter.unusedVariables false
set_option linter.unusedSimpArgs false
set_option linter.unnecessarySimpa false
/-! strings.ContainsRune over "._-". -/
abbrev dots : ByteArray := ⟨#[46, 95, 45]⟩
theorem dots_dec : ∀ k, k < 3 → ((Utf8.decode dots k).1 < 128 ∧ (Utf8.decode dots k).2 = 1) := by decide
set_option maxRecDepth 100000 in
set_option maxHeartbeats 1000000 in
theorem iRune_err (w : World) : Calls Tryd.prog 130 #[.string dots, .int .i32 65533] w fun e w' => e = .returned (.int .i64 (-1)) ∧ ∃ pos, w' = w.iter dots pos := by
 go_enter Tryd.func130, Tryd.ntmps130
 go_wp2
 go_loopw [] (fun w' => ∃ pos, pos ≤ 3 ∧ w' = w.iter dots pos) (fun w' => 3 - w'.iterPos w.heap.size)
 case atStart => exact ⟨0, by omega, rfl⟩
 case round =>
  obtain ⟨pos, hp, rfl⟩ := hrel
  by_cases hlt : pos < 3
  ·
   have hnx : ∀ ty, (Instr.next (.pointer (some ⟨w.heap.size, 0, none⟩)) true ty).run Tryd.prog (w.iter dots pos) = _ := fun ty => run_next_any w dots pos ty hlt
   obtain ⟨h1, h2⟩ := dots_dec pos hlt
   have b1 : (((Utf8.decode dots pos).1 : Int) == 65533) = false := by simp; omega
   clear h1
   go_wp2
   go_roundw
   case rel => exact ⟨pos + 1, by omega, rfl⟩
   case measure => simp; omega
  ·
   obtain rfl : pos = 3 := by omega
   have hnx : ∀ ty, (Instr.next (.pointer (some ⟨w.heap.size, 0, none⟩)) true ty).run Tryd.prog (w.iter dots 3) = _ := fun ty => run_next_end w dots 3 ty (by decide)
   go_wp2
   go_ret
   exact ⟨rfl, _, rfl⟩
theorem enc2 (r : Int) (hv : Utf8.valid r = true) (h1 : 128 ≤ r) (h2 : r < 2048) : ∃ a b : UInt8, Utf8.encode r = ⟨#[a, b]⟩ ∧ 128 ≤ b.toNat := by
 refine ⟨UInt8.ofNat (192 + r.toNat / 64), UInt8.ofNat (128 + r.toNat % 64), ?_, by simp; omega⟩
 simp only [Utf8.encode, hv, if_true]; rw [if_neg (by omega), if_pos (by omega)]
theorem enc3 (r : Int) (hv : Utf8.valid r = true) (h1 : 2048 ≤ r) (h2 : r < 65536) : ∃ a b c : UInt8, Utf8.encode r = ⟨#[a, b, c]⟩ ∧ 128 ≤ c.toNat := by
 refine ⟨UInt8.ofNat (224 + r.toNat / 4096), UInt8.ofNat (128 + r.toNat / 64 % 64), UInt8.ofNat (128 + r.toNat % 64), ?_, by simp; omega⟩
 simp only [Utf8.encode, hv, if_true]; rw [if_neg (by omega), if_neg (by omega), if_pos (by omega)]
theorem enc4 (r : Int) (hv : Utf8.valid r = true) (h1 : 65536 ≤ r) : ∃ a b c d : UInt8, Utf8.encode r = ⟨#[a, b, c, d]⟩ := by
 refine ⟨UInt8.ofNat (240 + r.toNat / 262144), UInt8.ofNat (128 + r.toNat / 4096 % 64), UInt8.ofNat (128 + r.toNat / 64 % 64), UInt8.ofNat (128 + r.toNat % 64), ?_⟩
 simp only [Utf8.encode, hv, if_true]; rw [if_neg (by omega), if_neg (by omega), if_neg (by omega)]
theorem valid_lib {r : Int} (hv : Utf8.valid r = true) : Lib.validRune r = true := by
 unfold Lib.validRune; unfold Utf8.valid at hv; simp only [Bool.or_eq_true, Bool.and_eq_true, decide_eq_true_eq] at hv; rw [decide_eq_true_eq]; omega
set_option maxRecDepth 100000 in
set_option maxHeartbeats 1000000 in
theorem iRune_2 (r : Int) (hv : Utf8.valid r = true) (h1 : 128 ≤ r) (h2 : r < 2048) (hne : r ≠ 65533) (w : World) : Calls Tryd.prog 130 #[.string dots, .int .i32 r] w fun e w' => e = .returned (.int .i64 (-1)) ∧ Below w.heap.size w w' := by
 obtain ⟨a, b, hrs, hb⟩ := enc2 r hv h1 h2
 have b1 : (r == 65533) = false := by simpa using hne
 have b2 : decide (0 ≤ r) = true := decide_eq_true (by omega)
 have b3 : decide (r < 128) = false := decide_eq_false (by omega)
 have hvr := valid_lib hv
 clear hne
 go_enter Tryd.func130, Tryd.ntmps130
 go_wp2_with (go_at_call 134; refine (Tryd.utf8_ValidRune r _).mono ?_; rw [hvr]; rintro e w' ⟨rfl, hw⟩; rw [hw])
 go_step3
 go_wp2
 refine wp_loop_rounds 1 ?_
 rw [rounds_succ]
 go_wp2
 go_step3
 go_wp2
 have e1 : (((dots[1]'(by decide)).toNat : Int) != (((⟨#[a, b]⟩ : ByteArray)[1]'(show 1 < 2 by decide)).toNat : Int)) = true := by
  show ((95 : Int) != (b.toNat : Int)) = true
  simp; omega
 go_quiet (fail)
 obtain ⟨W, hW⟩ : ∃ W, W = w.drewN nq := ⟨_, rfl⟩
 rw [← hW]
 have HW : Aside0 (Below w.heap.size w W) := ⟨by rw [hW]; exact pw_below_drewN (Below.refl _ _) _⟩
 clear hW
 go_wp2
 have w2 : IntKind.i64.wrap 2 = 2 := by decide
 go_quiet ((go_at_call 133; exact Calls.quiet_of_same (Tryd.strings_IndexByte _ _ _)))
 have e2 : Lib.indexByte (dots.extract 2 3).data.toList ((((⟨#[a, b]⟩ : ByteArray)[1]'(show 1 < 2 by decide)).toNat : Int).toNat.toUInt8) = -1 := by
  show (if (45 : UInt8) == b.toNat.toUInt8 then (0 : Int) else if Lib.indexByte [] b.toNat.toUInt8 == -1 then -1 else Lib.indexByte [] b.toNat.toUInt8 + 1) = -1
  rw [if_neg (by intro h; have := congrArg UInt8.toNat (eq_of_beq h); simp at this; omega)]
  rfl
 rw [e2]
 clear e1 e2 w2
 go_wp2
 rw [Exit.noGoto_ret]
 go_wp2
 rw [Exit.noGoto_ret]
 go_ret
 exact ⟨rfl, pw_below_drewN HW.out _⟩
set_option maxRecDepth 100000 in
set_option maxHeartbeats 1000000 in
theorem iRune_3 (r : Int) (hv : Utf8.valid r = true) (h1 : 2048 ≤ r) (h2 : r < 65536) (hne : r ≠ 65533) (w : World) : Calls Tryd.prog 130 #[.string dots, .int .i32 r] w fun e w' => e = .returned (.int .i64 (-1)) ∧ Below w.heap.size w w' := by
 obtain ⟨a, b, c, hrs, hb⟩ := enc3 r hv h1 h2
 have b1 : (r == 65533) = false := by simpa using hne
 have b2 : decide (0 ≤ r) = true := decide_eq_true (by omega)
 have b3 : decide (r < 128) = false := decide_eq_false (by omega)
 have hvr := valid_lib hv
 clear hne
 go_enter Tryd.func130, Tryd.ntmps130
 go_wp2_with (go_at_call 134; refine (Tryd.utf8_ValidRune r _).mono ?_; rw [hvr]; rintro e w' ⟨rfl, hw⟩; rw [hw])
 go_step3
 go_wp2
 refine wp_loop_rounds 1 ?_
 rw [rounds_succ]
 go_wp2
 go_step3
 go_wp2
 have e1 : (((dots[2]'(by decide)).toNat : Int) != (((⟨#[a, b, c]⟩ : ByteArray)[2]'(show 2 < 3 by decide)).toNat : Int)) = true := by
  show ((45 : Int) != (c.toNat : Int)) = true
  simp; omega
 go_quiet (fail)
 obtain ⟨W, hW⟩ : ∃ W, W = w.drewN nq := ⟨_, rfl⟩
 rw [← hW]
 have HW : Aside0 (Below w.heap.size w W) := ⟨by rw [hW]; exact pw_below_drewN (Below.refl _ _) _⟩
 clear hW
 go_wp2
 have w2 : IntKind.i64.wrap 3 = 3 := by decide
 go_quiet ((go_at_call 133; exact Calls.quiet_of_same (Tryd.strings_IndexByte _ _ _)))
 have e2 : Lib.indexByte ByteArray.empty.data.toList ((((⟨#[a, b, c]⟩ : ByteArray)[2]'(show 2 < 3 by decide)).toNat : Int).toNat.toUInt8) = -1 := by
  rfl
 rw [e2]
 clear e1 e2 w2
 go_wp2
 rw [Exit.noGoto_ret]
 go_wp2
 rw [Exit.noGoto_ret]
 go_ret
 exact ⟨rfl, pw_below_drewN HW.out _⟩
set_option maxRecDepth 100000 in
set_option maxHeartbeats 1000000 in
theorem iRune_4 (r : Int) (hv : Utf8.valid r = true) (h1 : 65536 ≤ r) (hne : r ≠ 65533) (w : World) : Calls Tryd.prog 130 #[.string dots, .int .i32 r] w fun e w' => e = .returned (.int .i64 (-1)) ∧ Below w.heap.size w w' := by
 obtain ⟨a, b, c, d, hrs⟩ := enc4 r hv h1
 have b1 : (r == 65533) = false := by simpa using hne
 have b2 : decide (0 ≤ r) = true := decide_eq_true (by omega)
 have b3 : decide (r < 128) = false := decide_eq_false (by omega)
 have hvr := valid_lib hv
 clear hne
 go_enter Tryd.func130, Tryd.ntmps130
 go_wp2_with (go_at_call 134; refine (Tryd.utf8_ValidRune r _).mono ?_; rw [hvr]; rintro e w' ⟨rfl, hw⟩; rw [hw])
 go_step3
 go_wp2
 refine wp_loop_rounds 1 ?_
 rw [rounds_succ]
 go_wp2
 rw [Exit.noGoto_ret]
 go_ret
 exact ⟨rfl, Below.refl _ _⟩
theorem below_iter (w : World) (s : ByteArray) (p : Nat) : Below w.heap.size w (w.iter s p) := below_alloc (Below.refl _ _) _
theorem iRune_high (r : Int) (hv : Utf8.valid r = true) (h1 : 128 ≤ r) (w : World) : Calls Tryd.prog 130 #[.string dots, .int .i32 r] w fun e w' => e = .returned (.int .i64 (-1)) ∧ Below w.heap.size w w' := by
 by_cases hne : r = 65533
 ·
  subst hne
  exact (iRune_err w).mono fun e w' ⟨h, p, hw⟩ => ⟨h, by rw [hw]; exact below_iter w _ _⟩
 ·
  by_cases h2 : r < 2048
  ·
   exact iRune_2 r hv h1 h2 hne w
  ·
   by_cases h3 : r < 65536
   ·
    exact iRune_3 r hv (by omega) h3 hne w
   ·
    exact iRune_4 r hv (by omega) hne w
/-- Is a rune one of the three? -/
def dotI (r : Int) : Bool := decide (r = 46 ∨ r = 95 ∨ r = 45)
theorem dots_at : ∀ k : Fin 128, decide (0 ≤ Lib.indexByte dots.data.toList ((k.val : Nat) : Int).toNat.toUInt8) = dotI ((k.val : Nat) : Int) := by decide
set_option maxHeartbeats 400000 in
theorem cRune_high (r : Int) (hv : Utf8.valid r = true) (h1 : 128 ≤ r) (w : World) : Calls Tryd.prog 125 #[.string dots, .int .i32 r] w fun e w' => e = .returned (.bool false) ∧ Below w.heap.size w w' := by
 go_enter Tryd.func125, Tryd.ntmps125
 go_wp2_with fail
 refine (iRune_high r hv h1 _).mono ?_
 rintro e w1 ⟨rfl, hb⟩
 have HB := Aside0.mk hb
 clear hb
 go_wp2
 go_ret
 exact ⟨rfl, HB.out⟩
/-- strings.ContainsRune, of the dots and whatever rune that may be. -/
def strings_ContainsRune.f (s : ByteArray) (r : Int) : Option Bool := if s = dots ∧ Utf8.valid r = true then some (dotI r) else none
theorem strings_ContainsRune.calls (s : ByteArray) (r : Int) (b : Bool) (w : World) (h : strings_ContainsRune.f s r = some b) :
  Calls Tryd.prog 125 #[.string s, .int .i32 r] w fun e w' => e = .returned (.bool b) ∧ Below w.heap.size w w' := by
 unfold strings_ContainsRune.f at h
 split at h
 ·
  rename_i hh
  obtain ⟨rfl, hv⟩ := hh
  obtain rfl := Option.some.inj h
  by_cases h1 : r < 128
  ·
   have h0 : 0 ≤ r := by unfold Utf8.valid at hv; simp only [Bool.or_eq_true, Bool.and_eq_true, decide_eq_true_eq] at hv; omega
   obtain ⟨k, rfl⟩ := Int.eq_ofNat_of_zero_le h0
   have h3 := dots_at ⟨k, by omega⟩
   refine (Tryd.strings_ContainsRune_ascii dots (k : Int) w h0 h1).mono ?_
   rintro e w' ⟨rfl, rfl⟩
   refine ⟨?_, Below.refl _ _⟩
   rw [show decide (0 ≤ Lib.indexByte dots.data.toList ((k : Nat) : Int).toNat.toUInt8) = dotI ((k : Nat) : Int) from h3]
  ·
   have e : dotI r = false := by unfold dotI; exact decide_eq_false (by omega)
   rw [e]
   exact cRune_high r hv (by omega) w
 ·
  cases h
end Go.Proofs.YtlmmpncdemblbaaDoor.P
namespace Go.Proofs.YtlmmpncdemblbaaDoor.P
open Go.RowKit Go.Proofs.YtlmmpncdemblbaaDoorW.PrintWords Go.Proofs.YtlmmpncdemblbaaDoorW.PrintLast Go.Proofs.YtlmmpncdemblbaaDoorW.PrintMore
attribute [local go_sem] max2_int min2_int max_two min_two max_three min_three max_four min_four-- for this text's walks alone
set_option linter.unusedVariables false
set_option linter.unusedSimpArgs false
/-! ### tag_within: function 115 -/
def tag_within.f (a0 : Int) : Option (Bool) := if a0 ≥ 97 then (if a0 ≤ 122 then (some true) else (if a0 ≥ 65 then (if a0 ≤ 90 then (some true) else (if a0 ≥ 48 then (if a0 ≤ 57 then (some true) else ((strings_ContainsRune.f (⟨#[46, 95, 45]⟩ : ByteArray) a0).bind fun t101 => (if t101 = true then (some true) else (some (decide (a0 ≥ 161)))))) else ((strings_ContainsRune.f (⟨#[46, 95, 45]⟩ : ByteArray) a0).bind fun t102 => (if t102 = true then (some true) else (some (decide (a0 ≥ 161))))))) else (if a0 ≥ 48 then (if a0 ≤ 57 then (some true) else ((strings_ContainsRune.f (⟨#[46, 95, 45]⟩ : ByteArray) a0).bind fun t103 => (if t103 = true then (some true) else (some (decide (a0 ≥ 161)))))) else ((strings_ContainsRune.f (⟨#[46, 95, 45]⟩ : ByteArray) a0).bind fun t104 => (if t104 = true then (some true) else (some (decide (a0 ≥ 161)))))))) else (if a0 ≥ 65 then (if a0 ≤ 90 then (some true) else (if a0 ≥ 48 then (if a0 ≤ 57 then (some true) else ((strings_ContainsRune.f (⟨#[46, 95, 45]⟩ : ByteArray) a0).bind fun t105 => (if t105 = true then (some true) else (some (decide (a0 ≥ 161)))))) else ((strings_ContainsRune.f (⟨#[46, 95, 45]⟩ : ByteArray) a0).bind fun t106 => (if t106 = true then (some true) else (some (decide (a0 ≥ 161))))))) else (if a0 ≥ 48 then (if a0 ≤ 57 then (some true) else ((strings_ContainsRune.f (⟨#[46, 95, 45]⟩ : ByteArray) a0).bind fun t107 => (if t107 = true then (some true) else (some (decide (a0 ≥ 161)))))) else ((strings_ContainsRune.f (⟨#[46, 95, 45]⟩ : ByteArray) a0).bind fun t108 => (if t108 = true then (some true) else (some (decide (a0 ≥ 161)))))))
set_option maxHeartbeats 8000000 in
set_option maxRecDepth 100000 in
theorem tag_within.calls (a0 : Int) (r : Bool) (w : World) (h : tag_within.f a0 = some r) :
  Calls Tryd.prog 115 #[.int .i32 a0] w fun e w' => e = .returned (.bool r) ∧ Below w.heap.size w w' := by
 have HB := Aside0.mk (Below.refl w.heap.size w)
 have H : (if a0 ≥ 97 then (if a0 ≤ 122 then (some true) else (if a0 ≥ 65 then (if a0 ≤ 90 then (some true) else (if a0 ≥ 48 then (if a0 ≤ 57 then (some true) else ((strings_ContainsRune.f (⟨#[46, 95, 45]⟩ : ByteArray) a0).bind fun t101 => (if t101 = true then (some true) else (some (decide (a0 ≥ 161)))))) else ((strings_ContainsRune.f (⟨#[46, 95, 45]⟩ : ByteArray) a0).bind fun t102 => (if t102 = true then (some true) else (some (decide (a0 ≥ 161))))))) else (if a0 ≥ 48 then (if a0 ≤ 57 then (some true) else ((strings_ContainsRune.f (⟨#[46, 95, 45]⟩ : ByteArray) a0).bind fun t103 => (if t103 = true then (some true) else (some (decide (a0 ≥ 161)))))) else ((strings_ContainsRune.f (⟨#[46, 95, 45]⟩ : ByteArray) a0).bind fun t104 => (if t104 = true then (some true) else (some (decide (a0 ≥ 161)))))))) else (if a0 ≥ 65 then (if a0 ≤ 90 then (some true) else (if a0 ≥ 48 then (if a0 ≤ 57 then (some true) else ((strings_ContainsRune.f (⟨#[46, 95, 45]⟩ : ByteArray) a0).bind fun t105 => (if t105 = true then (some true) else (some (decide (a0 ≥ 161)))))) else ((strings_ContainsRune.f (⟨#[46, 95, 45]⟩ : ByteArray) a0).bind fun t106 => (if t106 = true then (some true) else (some (decide (a0 ≥ 161))))))) else (if a0 ≥ 48 then (if a0 ≤ 57 then (some true) else ((strings_ContainsRune.f (⟨#[46, 95, 45]⟩ : ByteArray) a0).bind fun t107 => (if t107 = true then (some true) else (some (decide (a0 ≥ 161)))))) else ((strings_ContainsRune.f (⟨#[46, 95, 45]⟩ : ByteArray) a0).bind fun t108 => (if t108 = true then (some true) else (some (decide (a0 ≥ 161)))))))) = some r := h
 clear h
 by_cases c2 : a0 ≥ 97
 ·
  rw [if_pos c2] at H
  have c2b0 : decide (97 ≤ a0) = true := decide_eq_true c2
  clear c2
  by_cases c3 : a0 ≤ 122
  ·
   rw [if_pos c3] at H
   have c3b0 : decide (a0 ≤ 122) = true := decide_eq_true c3
   clear c3
   obtain rfl := Option.some.inj H
   go_enter Tryd.func115, Tryd.ntmps115
   go_wp2
   go_ret
   exact ⟨by first | rfl | (simp [errW_none, errW_some] <;> rfl) | (simp [*, errW_none, errW_some] <;> rfl), by repeat (first | (with_reducible first | exact HB.out | apply below_alloc | apply pw_below_drewN | apply below_drew1) | exact HB.out)⟩
  ·
   rw [if_neg c3] at H
   have c3b0 : decide (a0 ≤ 122) = false := decide_eq_false c3
   clear c3
   by_cases c4 : a0 ≥ 65
   ·
    rw [if_pos c4] at H
    have c4b0 : decide (65 ≤ a0) = true := decide_eq_true c4
    clear c4
    by_cases c5 : a0 ≤ 90
    ·
     rw [if_pos c5] at H
     have c5b0 : decide (a0 ≤ 90) = true := decide_eq_true c5
     clear c5
     obtain rfl := Option.some.inj H
     go_enter Tryd.func115, Tryd.ntmps115
     go_wp2
     go_ret
     exact ⟨by first | rfl | (simp [errW_none, errW_some] <;> rfl) | (simp [*, errW_none, errW_some] <;> rfl), by repeat (first | (with_reducible first | exact HB.out | apply below_alloc | apply pw_below_drewN | apply below_drew1) | exact HB.out)⟩
    ·
     rw [if_neg c5] at H
     have c5b0 : decide (a0 ≤ 90) = false := decide_eq_false c5
     clear c5
     by_cases c6 : a0 ≥ 48
     ·
      rw [if_pos c6] at H
      have c6b0 : decide (48 ≤ a0) = true := decide_eq_true c6
      clear c6
      by_cases c7 : a0 ≤ 57
      ·
       rw [if_pos c7] at H
       have c7b0 : decide (a0 ≤ 57) = true := decide_eq_true c7
       clear c7
       obtain rfl := Option.some.inj H
       go_enter Tryd.func115, Tryd.ntmps115
       go_wp2
       go_ret
       exact ⟨by first | rfl | (simp [errW_none, errW_some] <;> rfl) | (simp [*, errW_none, errW_some] <;> rfl), by repeat (first | (with_reducible first | exact HB.out | apply below_alloc | apply pw_below_drewN | apply below_drew1) | exact HB.out)⟩
      ·
       rw [if_neg c7] at H
       have c7b0 : decide (a0 ≤ 57) = false := decide_eq_false c7
       clear c7
       replace H := Option.bind_eq_some_iff.mp H
       obtain ⟨t101, A80, H⟩ := H
       replace H : (if t101 = true then (some true) else (some (decide (a0 ≥ 161)))) = some r := H
       have A8 := Aside0.mk A80
       clear A80
       by_cases c9 : t101 = true
       ·
        subst c9
        have H1 : (some true) = some r := by rw [if_pos rfl] at H; exact H
        clear H
        have H := H1
        clear H1
        obtain rfl := Option.some.inj H
        go_enter Tryd.func115, Tryd.ntmps115
        go_wp2_with (first | (go_at_call 125; (with_reducible refine (strings_ContainsRune.calls (⟨#[46, 95, 45]⟩ : ByteArray) a0 true _ A8.out).mono ?_); rintro e w10 ⟨rfl, hb⟩; have n0_ := Aside0.mk (below_step (by repeat (first | (with_reducible first | exact HB.out | apply below_alloc | apply pw_below_drewN | apply below_drew1) | exact HB.out)) hb); clear HB; have HB := n0_; clear n0_; (try clear hb); (try clear hb2); (try clear hk); (try clear hi)))
        go_ret
        exact ⟨by first | rfl | (simp [errW_none, errW_some] <;> rfl) | (simp [*, errW_none, errW_some] <;> rfl), by repeat (first | (with_reducible first | exact HB.out | apply below_alloc | apply pw_below_drewN | apply below_drew1) | exact HB.out)⟩
       ·
        replace c9 := Bool.eq_false_iff.mpr c9
        subst c9
        have H1 : (some (decide (a0 ≥ 161))) = some r := by rw [if_neg (show ¬ (false = true) by decide)] at H; exact H
        clear H
        have H := H1
        clear H1
        obtain rfl := Option.some.inj H
        go_enter Tryd.func115, Tryd.ntmps115
        go_wp2_with (first | (go_at_call 125; (with_reducible refine (strings_ContainsRune.calls (⟨#[46, 95, 45]⟩ : ByteArray) a0 false _ A8.out).mono ?_); rintro e w11 ⟨rfl, hb⟩; have n0_ := Aside0.mk (below_step (by repeat (first | (with_reducible first | exact HB.out | apply below_alloc | apply pw_below_drewN | apply below_drew1) | exact HB.out)) hb); clear HB; have HB := n0_; clear n0_; (try clear hb); (try clear hb2); (try clear hk); (try clear hi)))
        go_ret
        exact ⟨by first | rfl | (simp [errW_none, errW_some] <;> rfl) | (simp [*, errW_none, errW_some] <;> rfl), by repeat (first | (with_reducible first | exact HB.out | apply below_alloc | apply pw_below_drewN | apply below_drew1) | exact HB.out)⟩
     ·
      rw [if_neg c6] at H
      have c6b0 : decide (48 ≤ a0) = false := decide_eq_false c6
      clear c6
      replace H := Option.bind_eq_some_iff.mp H
      obtain ⟨t102, A120, H⟩ := H
      replace H : (if t102 = true then (some true) else (some (decide (a0 ≥ 161)))) = some r := H
      have A12 := Aside0.mk A120
      clear A120
      by_cases c13 : t102 = true
      ·
       subst c13
       have H1 : (some true) = some r := by rw [if_pos rfl] at H; exact H
       clear H
       have H := H1
       clear H1
       obtain rfl := Option.some.inj H
       go_enter Tryd.func115, Tryd.ntmps115
       go_wp2_with (first | (go_at_call 125; (with_reducible refine (strings_ContainsRune.calls (⟨#[46, 95, 45]⟩ : ByteArray) a0 true _ A12.out).mono ?_); rintro e w14 ⟨rfl, hb⟩; have n0_ := Aside0.mk (below_step (by repeat (first | (with_reducible first | exact HB.out | apply below_alloc | apply pw_below_drewN | apply below_drew1) | exact HB.out)) hb); clear HB; have HB := n0_; clear n0_; (try clear hb); (try clear hb2); (try clear hk); (try clear hi)))
       go_ret
       exact ⟨by first | rfl | (simp [errW_none, errW_some] <;> rfl) | (simp [*, errW_none, errW_some] <;> rfl), by repeat (first | (with_reducible first | exact HB.out | apply below_alloc | apply pw_below_drewN | apply below_drew1) | exact HB.out)⟩
      ·
       replace c13 := Bool.eq_false_iff.mpr c13
       subst c13
       have H1 : (some (decide (a0 ≥ 161))) = some r := by rw [if_neg (show ¬ (false = true) by decide)] at H; exact H
       clear H
       have H := H1
       clear H1
       obtain rfl := Option.some.inj H
       go_enter Tryd.func115, Tryd.ntmps115
       go_wp2_with (first | (go_at_call 125; (with_reducible refine (strings_ContainsRune.calls (⟨#[46, 95, 45]⟩ : ByteArray) a0 false _ A12.out).mono ?_); rintro e w15 ⟨rfl, hb⟩; have n0_ := Aside0.mk (below_step (by repeat (first | (with_reducible first | exact HB.out | apply below_alloc | apply pw_below_drewN | apply below_drew1) | exact HB.out)) hb); clear HB; have HB := n0_; clear n0_; (try clear hb); (try clear hb2); (try clear hk); (try clear hi)))
       go_ret
       exact ⟨by first | rfl | (simp [errW_none, errW_some] <;> rfl) | (simp [*, errW_none, errW_some] <;> rfl), by repeat (first | (with_reducible first | exact HB.out | apply below_alloc | apply pw_below_drewN | apply below_drew1) | exact HB.out)⟩
   ·
    rw [if_neg c4] at H
    have c4b0 : decide (65 ≤ a0) = false := decide_eq_false c4
    clear c4
    by_cases c16 : a0 ≥ 48
    ·
     rw [if_pos c16] at H
     have c16b0 : decide (48 ≤ a0) = true := decide_eq_true c16
     clear c16
     by_cases c17 : a0 ≤ 57
     ·
      rw [if_pos c17] at H
      have c17b0 : decide (a0 ≤ 57) = true := decide_eq_true c17
      clear c17
      obtain rfl := Option.some.inj H
      go_enter Tryd.func115, Tryd.ntmps115
      go_wp2
      go_ret
      exact ⟨by first | rfl | (simp [errW_none, errW_some] <;> rfl) | (simp [*, errW_none, errW_some] <;> rfl), by repeat (first | (with_reducible first | exact HB.out | apply below_alloc | apply pw_below_drewN | apply below_drew1) | exact HB.out)⟩
     ·
      rw [if_neg c17] at H
      have c17b0 : decide (a0 ≤ 57) = false := decide_eq_false c17
      clear c17
      replace H := Option.bind_eq_some_iff.mp H
      obtain ⟨t103, A180, H⟩ := H
      replace H : (if t103 = true then (some true) else (some (decide (a0 ≥ 161)))) = some r := H
      have A18 := Aside0.mk A180
      clear A180
      by_cases c19 : t103 = true
      ·
       subst c19
       have H1 : (some true) = some r := by rw [if_pos rfl] at H; exact H
       clear H
       have H := H1
       clear H1
       obtain rfl := Option.some.inj H
       go_enter Tryd.func115, Tryd.ntmps115
       go_wp2_with (first | (go_at_call 125; (with_reducible refine (strings_ContainsRune.calls (⟨#[46, 95, 45]⟩ : ByteArray) a0 true _ A18.out).mono ?_); rintro e w20 ⟨rfl, hb⟩; have n0_ := Aside0.mk (below_step (by repeat (first | (with_reducible first | exact HB.out | apply below_alloc | apply pw_below_drewN | apply below_drew1) | exact HB.out)) hb); clear HB; have HB := n0_; clear n0_; (try clear hb); (try clear hb2); (try clear hk); (try clear hi)))
       go_ret
       exact ⟨by first | rfl | (simp [errW_none, errW_some] <;> rfl) | (simp [*, errW_none, errW_some] <;> rfl), by repeat (first | (with_reducible first | exact HB.out | apply below_alloc | apply pw_below_drewN | apply below_drew1) | exact HB.out)⟩
      ·
       replace c19 := Bool.eq_false_iff.mpr c19
       subst c19
       have H1 : (some (decide (a0 ≥ 161))) = some r := by rw [if_neg (show ¬ (false = true) by decide)] at H; exact H
       clear H
       have H := H1
       clear H1
       obtain rfl := Option.some.inj H
       go_enter Tryd.func115, Tryd.ntmps115
       go_wp2_with (first | (go_at_call 125; (with_reducible refine (strings_ContainsRune.calls (⟨#[46, 95, 45]⟩ : ByteArray) a0 false _ A18.out).mono ?_); rintro e w21 ⟨rfl, hb⟩; have n0_ := Aside0.mk (below_step (by repeat (first | (with_reducible first | exact HB.out | apply below_alloc | apply pw_below_drewN | apply below_drew1) | exact HB.out)) hb); clear HB; have HB := n0_; clear n0_; (try clear hb); (try clear hb2); (try clear hk); (try clear hi)))
       go_ret
       exact ⟨by first | rfl | (simp [errW_none, errW_some] <;> rfl) | (simp [*, errW_none, errW_some] <;> rfl), by repeat (first | (with_reducible first | exact HB.out | apply below_alloc | apply pw_below_drewN | apply below_drew1) | exact HB.out)⟩
    ·
     rw [if_neg c16] at H
     have c16b0 : decide (48 ≤ a0) = false := decide_eq_false c16
     clear c16
     replace H := Option.bind_eq_some_iff.mp H
     obtain ⟨t104, A220, H⟩ := H
     replace H : (if t104 = true then (some true) else (some (decide (a0 ≥ 161)))) = some r := H
     have A22 := Aside0.mk A220
     clear A220
     by_cases c23 : t104 = true
     ·
      subst c23
      have H1 : (some true) = some r := by rw [if_pos rfl] at H; exact H
      clear H
      have H := H1
      clear H1
      obtain rfl := Option.some.inj H
      go_enter Tryd.func115, Tryd.ntmps115
      go_wp2_with (first | (go_at_call 125; (with_reducible refine (strings_ContainsRune.calls (⟨#[46, 95, 45]⟩ : ByteArray) a0 true _ A22.out).mono ?_); rintro e w24 ⟨rfl, hb⟩; have n0_ := Aside0.mk (below_step (by repeat (first | (with_reducible first | exact HB.out | apply below_alloc | apply pw_below_drewN | apply below_drew1) | exact HB.out)) hb); clear HB; have HB := n0_; clear n0_; (try clear hb); (try clear hb2); (try clear hk); (try clear hi)))
      go_ret
      exact ⟨by first | rfl | (simp [errW_none, errW_some] <;> rfl) | (simp [*, errW_none, errW_some] <;> rfl), by repeat (first | (with_reducible first | exact HB.out | apply below_alloc | apply pw_below_drewN | apply below_drew1) | exact HB.out)⟩
     ·
      replace c23 := Bool.eq_false_iff.mpr c23
      subst c23
      have H1 : (some (decide (a0 ≥ 161))) = some r := by rw [if_neg (show ¬ (false = true) by decide)] at H; exact H
      clear H
      have H := H1
      clear H1
      obtain rfl := Option.some.inj H
      go_enter Tryd.func115, Tryd.ntmps115
      go_wp2_with (first | (go_at_call 125; (with_reducible refine (strings_ContainsRune.calls (⟨#[46, 95, 45]⟩ : ByteArray) a0 false _ A22.out).mono ?_); rintro e w25 ⟨rfl, hb⟩; have n0_ := Aside0.mk (below_step (by repeat (first | (with_reducible first | exact HB.out | apply below_alloc | apply pw_below_drewN | apply below_drew1) | exact HB.out)) hb); clear HB; have HB := n0_; clear n0_; (try clear hb); (try clear hb2); (try clear hk); (try clear hi)))
      go_ret
      exact ⟨by first | rfl | (simp [errW_none, errW_some] <;> rfl) | (simp [*, errW_none, errW_some] <;> rfl), by repeat (first | (with_reducible first | exact HB.out | apply below_alloc | apply pw_below_drewN | apply below_drew1) | exact HB.out)⟩
 ·
  rw [if_neg c2] at H
  have c2b0 : decide (97 ≤ a0) = false := decide_eq_false c2
  clear c2
  by_cases c26 : a0 ≥ 65
  ·
   rw [if_pos c26] at H
   have c26b0 : decide (65 ≤ a0) = true := decide_eq_true c26
   clear c26
   by_cases c27 : a0 ≤ 90
   ·
    rw [if_pos c27] at H
    have c27b0 : decide (a0 ≤ 90) = true := decide_eq_true c27
    clear c27
    obtain rfl := Option.some.inj H
    go_enter Tryd.func115, Tryd.ntmps115
    go_wp2
    go_ret
    exact ⟨by first | rfl | (simp [errW_none, errW_some] <;> rfl) | (simp [*, errW_none, errW_some] <;> rfl), by repeat (first | (with_reducible first | exact HB.out | apply below_alloc | apply pw_below_drewN | apply below_drew1) | exact HB.out)⟩
   ·
    rw [if_neg c27] at H
    have c27b0 : decide (a0 ≤ 90) = false := decide_eq_false c27
    clear c27
    by_cases c28 : a0 ≥ 48
    ·
     rw [if_pos c28] at H
     have c28b0 : decide (48 ≤ a0) = true := decide_eq_true c28
     clear c28
     by_cases c29 : a0 ≤ 57
     ·
      rw [if_pos c29] at H
      have c29b0 : decide (a0 ≤ 57) = true := decide_eq_true c29
      clear c29
      obtain rfl := Option.some.inj H
      go_enter Tryd.func115, Tryd.ntmps115
      go_wp2
      go_ret
      exact ⟨by first | rfl | (simp [errW_none, errW_some] <;> rfl) | (simp [*, errW_none, errW_some] <;> rfl), by repeat (first | (with_reducible first | exact HB.out | apply below_alloc | apply pw_below_drewN | apply below_drew1) | exact HB.out)⟩
     ·
      rw [if_neg c29] at H
      have c29b0 : decide (a0 ≤ 57) = false := decide_eq_false c29
      clear c29
      replace H := Option.bind_eq_some_iff.mp H
      obtain ⟨t105, A300, H⟩ := H
      replace H : (if t105 = true then (some true) else (some (decide (a0 ≥ 161)))) = some r := H
      have A30 := Aside0.mk A300
      clear A300
      by_cases c31 : t105 = true
      ·
       subst c31
       have H1 : (some true) = some r := by rw [if_pos rfl] at H; exact H
       clear H
       have H := H1
       clear H1
       obtain rfl := Option.some.inj H
       go_enter Tryd.func115, Tryd.ntmps115
       go_wp2_with (first | (go_at_call 125; (with_reducible refine (strings_ContainsRune.calls (⟨#[46, 95, 45]⟩ : ByteArray) a0 true _ A30.out).mono ?_); rintro e w32 ⟨rfl, hb⟩; have n0_ := Aside0.mk (below_step (by repeat (first | (with_reducible first | exact HB.out | apply below_alloc | apply pw_below_drewN | apply below_drew1) | exact HB.out)) hb); clear HB; have HB := n0_; clear n0_; (try clear hb); (try clear hb2); (try clear hk); (try clear hi)))
       go_ret
       exact ⟨by first | rfl | (simp [errW_none, errW_some] <;> rfl) | (simp [*, errW_none, errW_some] <;> rfl), by repeat (first | (with_reducible first | exact HB.out | apply below_alloc | apply pw_below_drewN | apply below_drew1) | exact HB.out)⟩
      ·
       replace c31 := Bool.eq_false_iff.mpr c31
       subst c31
       have H1 : (some (decide (a0 ≥ 161))) = some r := by rw [if_neg (show ¬ (false = true) by decide)] at H; exact H
       clear H
       have H := H1
       clear H1
       obtain rfl := Option.some.inj H
       go_enter Tryd.func115, Tryd.ntmps115
       go_wp2_with (first | (go_at_call 125; (with_reducible refine (strings_ContainsRune.calls (⟨#[46, 95, 45]⟩ : ByteArray) a0 false _ A30.out).mono ?_); rintro e w33 ⟨rfl, hb⟩; have n0_ := Aside0.mk (below_step (by repeat (first | (with_reducible first | exact HB.out | apply below_alloc | apply pw_below_drewN | apply below_drew1) | exact HB.out)) hb); clear HB; have HB := n0_; clear n0_; (try clear hb); (try clear hb2); (try clear hk); (try clear hi)))
       go_ret
       exact ⟨by first | rfl | (simp [errW_none, errW_some] <;> rfl) | (simp [*, errW_none, errW_some] <;> rfl), by repeat (first | (with_reducible first | exact HB.out | apply below_alloc | apply pw_below_drewN | apply below_drew1) | exact HB.out)⟩
    ·
     rw [if_neg c28] at H
     have c28b0 : decide (48 ≤ a0) = false := decide_eq_false c28
     clear c28
     replace H := Option.bind_eq_some_iff.mp H
     obtain ⟨t106, A340, H⟩ := H
     replace H : (if t106 = true then (some true) else (some (decide (a0 ≥ 161)))) = some r := H
     have A34 := Aside0.mk A340
     clear A340
     by_cases c35 : t106 = true
     ·
      subst c35
      have H1 : (some true) = some r := by rw [if_pos rfl] at H; exact H
      clear H
      have H := H1
      clear H1
      obtain rfl := Option.some.inj H
      go_enter Tryd.func115, Tryd.ntmps115
      go_wp2_with (first | (go_at_call 125; (with_reducible refine (strings_ContainsRune.calls (⟨#[46, 95, 45]⟩ : ByteArray) a0 true _ A34.out).mono ?_); rintro e w36 ⟨rfl, hb⟩; have n0_ := Aside0.mk (below_step (by repeat (first | (with_reducible first | exact HB.out | apply below_alloc | apply pw_below_drewN | apply below_drew1) | exact HB.out)) hb); clear HB; have HB := n0_; clear n0_; (try clear hb); (try clear hb2); (try clear hk); (try clear hi)))
      go_ret
      exact ⟨by first | rfl | (simp [errW_none, errW_some] <;> rfl) | (simp [*, errW_none, errW_some] <;> rfl), by repeat (first | (with_reducible first | exact HB.out | apply below_alloc | apply pw_below_drewN | apply below_drew1) | exact HB.out)⟩
     ·
      replace c35 := Bool.eq_false_iff.mpr c35
      subst c35
      have H1 : (some (decide (a0 ≥ 161))) = some r := by rw [if_neg (show ¬ (false = true) by decide)] at H; exact H
      clear H
      have H := H1
      clear H1
      obtain rfl := Option.some.inj H
      go_enter Tryd.func115, Tryd.ntmps115
      go_wp2_with (first | (go_at_call 125; (with_reducible refine (strings_ContainsRune.calls (⟨#[46, 95, 45]⟩ : ByteArray) a0 false _ A34.out).mono ?_); rintro e w37 ⟨rfl, hb⟩; have n0_ := Aside0.mk (below_step (by repeat (first | (with_reducible first | exact HB.out | apply below_alloc | apply pw_below_drewN | apply below_drew1) | exact HB.out)) hb); clear HB; have HB := n0_; clear n0_; (try clear hb); (try clear hb2); (try clear hk); (try clear hi)))
      go_ret
      exact ⟨by first | rfl | (simp [errW_none, errW_some] <;> rfl) | (simp [*, errW_none, errW_some] <;> rfl), by repeat (first | (with_reducible first | exact HB.out | apply below_alloc | apply pw_below_drewN | apply below_drew1) | exact HB.out)⟩
  ·
   rw [if_neg c26] at H
   have c26b0 : decide (65 ≤ a0) = false := decide_eq_false c26
   clear c26
   by_cases c38 : a0 ≥ 48
   ·
    rw [if_pos c38] at H
    have c38b0 : decide (48 ≤ a0) = true := decide_eq_true c38
    clear c38
    by_cases c39 : a0 ≤ 57
    ·
     rw [if_pos c39] at H
     have c39b0 : decide (a0 ≤ 57) = true := decide_eq_true c39
     clear c39
     obtain rfl := Option.some.inj H
     go_enter Tryd.func115, Tryd.ntmps115
     go_wp2
     go_ret
     exact ⟨by first | rfl | (simp [errW_none, errW_some] <;> rfl) | (simp [*, errW_none, errW_some] <;> rfl), by repeat (first | (with_reducible first | exact HB.out | apply below_alloc | apply pw_below_drewN | apply below_drew1) | exact HB.out)⟩
    ·
     rw [if_neg c39] at H
     have c39b0 : decide (a0 ≤ 57) = false := decide_eq_false c39
     clear c39
     replace H := Option.bind_eq_some_iff.mp H
     obtain ⟨t107, A400, H⟩ := H
     replace H : (if t107 = true then (some true) else (some (decide (a0 ≥ 161)))) = some r := H
     have A40 := Aside0.mk A400
     clear A400
     by_cases c41 : t107 = true
     ·
      subst c41
      have H1 : (some true) = some r := by rw [if_pos rfl] at H; exact H
      clear H
      have H := H1
      clear H1
      obtain rfl := Option.some.inj H
      go_enter Tryd.func115, Tryd.ntmps115
      go_wp2_with (first | (go_at_call 125; (with_reducible refine (strings_ContainsRune.calls (⟨#[46, 95, 45]⟩ : ByteArray) a0 true _ A40.out).mono ?_); rintro e w42 ⟨rfl, hb⟩; have n0_ := Aside0.mk (below_step (by repeat (first | (with_reducible first | exact HB.out | apply below_alloc | apply pw_below_drewN | apply below_drew1) | exact HB.out)) hb); clear HB; have HB := n0_; clear n0_; (try clear hb); (try clear hb2); (try clear hk); (try clear hi)))
      go_ret
      exact ⟨by first | rfl | (simp [errW_none, errW_some] <;> rfl) | (simp [*, errW_none, errW_some] <;> rfl), by repeat (first | (with_reducible first | exact HB.out | apply below_alloc | apply pw_below_drewN | apply below_drew1) | exact HB.out)⟩
     ·
      replace c41 := Bool.eq_false_iff.mpr c41
      subst c41
      have H1 : (some (decide (a0 ≥ 161))) = some r := by rw [if_neg (show ¬ (false = true) by decide)] at H; exact H
      clear H
      have H := H1
      clear H1
      obtain rfl := Option.some.inj H
      go_enter Tryd.func115, Tryd.ntmps115
      go_wp2_with (first | (go_at_call 125; (with_reducible refine (strings_ContainsRune.calls (⟨#[46, 95, 45]⟩ : ByteArray) a0 false _ A40.out).mono ?_); rintro e w43 ⟨rfl, hb⟩; have n0_ := Aside0.mk (below_step (by repeat (first | (with_reducible first | exact HB.out | apply below_alloc | apply pw_below_drewN | apply below_drew1) | exact HB.out)) hb); clear HB; have HB := n0_; clear n0_; (try clear hb); (try clear hb2); (try clear hk); (try clear hi)))
      go_ret
      exact ⟨by first | rfl | (simp [errW_none, errW_some] <;> rfl) | (simp [*, errW_none, errW_some] <;> rfl), by repeat (first | (with_reducible first | exact HB.out | apply below_alloc | apply pw_below_drewN | apply below_drew1) | exact HB.out)⟩
   ·
    rw [if_neg c38] at H
    have c38b0 : decide (48 ≤ a0) = false := decide_eq_false c38
    clear c38
    replace H := Option.bind_eq_some_iff.mp H
    obtain ⟨t108, A440, H⟩ := H
    replace H : (if t108 = true then (some true) else (some (decide (a0 ≥ 161)))) = some r := H
    have A44 := Aside0.mk A440
    clear A440
    by_cases c45 : t108 = true
    ·
     subst c45
     have H1 : (some true) = some r := by rw [if_pos rfl] at H; exact H
     clear H
     have H := H1
     clear H1
     obtain rfl := Option.some.inj H
     go_enter Tryd.func115, Tryd.ntmps115
     go_wp2_with (first | (go_at_call 125; (with_reducible refine (strings_ContainsRune.calls (⟨#[46, 95, 45]⟩ : ByteArray) a0 true _ A44.out).mono ?_); rintro e w46 ⟨rfl, hb⟩; have n0_ := Aside0.mk (below_step (by repeat (first | (with_reducible first | exact HB.out | apply below_alloc | apply pw_below_drewN | apply below_drew1) | exact HB.out)) hb); clear HB; have HB := n0_; clear n0_; (try clear hb); (try clear hb2); (try clear hk); (try clear hi)))
     go_ret
     exact ⟨by first | rfl | (simp [errW_none, errW_some] <;> rfl) | (simp [*, errW_none, errW_some] <;> rfl), by repeat (first | (with_reducible first | exact HB.out | apply below_alloc | apply pw_below_drewN | apply below_drew1) | exact HB.out)⟩
    ·
     replace c45 := Bool.eq_false_iff.mpr c45
     subst c45
     have H1 : (some (decide (a0 ≥ 161))) = some r := by rw [if_neg (show ¬ (false = true) by decide)] at H; exact H
     clear H
     have H := H1
     clear H1
     obtain rfl := Option.some.inj H
     go_enter Tryd.func115, Tryd.ntmps115
     go_wp2_with (first | (go_at_call 125; (with_reducible refine (strings_ContainsRune.calls (⟨#[46, 95, 45]⟩ : ByteArray) a0 false _ A44.out).mono ?_); rintro e w47 ⟨rfl, hb⟩; have n0_ := Aside0.mk (below_step (by repeat (first | (with_reducible first | exact HB.out | apply below_alloc | apply pw_below_drewN | apply below_drew1) | exact HB.out)) hb); clear HB; have HB := n0_; clear n0_; (try clear hb); (try clear hb2); (try clear hk); (try clear hi)))
     go_ret
     exact ⟨by first | rfl | (simp [errW_none, errW_some] <;> rfl) | (simp [*, errW_none, errW_some] <;> rfl), by repeat (first | (with_reducible first | exact HB.out | apply below_alloc | apply pw_below_drewN | apply below_drew1) | exact HB.out)⟩
end Go.Proofs.YtlmmpncdemblbaaDoor.P
namespace Go.Proofs
open Go.Shelf
def Tryd.laysValid_ren : Go.Shelf.Ren := ⟨fun | 196 => 114 | 259 => 124 | n => n, fun | 9 => 9 | 4 => 4 | 3 => 3 | 5 => 5 | 12 => 12 | 119 => 180 | 0 => 0 | 46 => 47 | 139 => 183 | 138 => 182 | 53 => 22 | n => n, fun | 3 => 0 | 4 => 1 | n => n⟩
theorem Tryd.laysValid : Go.Proofs.Lays.n196 Tryd.prog Tryd.laysValid_ren := {
 mixed := by kernel_rfl
 f196 := Tryd.func114.trans (congrArg some (by kernel_rfl))
 f259 := Tryd.func124.trans (congrArg some (by kernel_rfl))
 t0 := Tryd.underlying0
 a0 := Tryd.isAgg0
 z0 := Tryd.sizeOf0
 v0 := Tryd.zeroValue0
 t3 := Tryd.underlying3
 a3 := Tryd.isAgg3
 z3 := Tryd.sizeOf3
 v3 := Tryd.zeroValue3
 t4 := Tryd.underlying4
 a4 := Tryd.isAgg4
 z4 := Tryd.sizeOf4
 v4 := Tryd.zeroValue4
 t5 := Tryd.underlying5
 a5 := Tryd.isAgg5
 z5 := Tryd.sizeOf5
 v5 := Tryd.zeroValue5
 t9 := Tryd.underlying9
 a9 := Tryd.isAgg9
 z9 := Tryd.sizeOf9
 v9 := Tryd.zeroValue9
 t12 := Tryd.underlying12
 a12 := Tryd.isAgg12
 z12 := Tryd.sizeOf12
 v12 := Tryd.zeroValue12
 t46 := Tryd.underlying47
 a46 := Tryd.isAgg47
 z46 := Tryd.sizeOf47
 v46 := Tryd.zeroValue47
 t53 := Tryd.underlying22
 a53 := Tryd.isAgg22
 z53 := Tryd.sizeOf22
 v53 := Tryd.zeroValue22
 t119 := Tryd.underlying180
 a119 := Tryd.isAgg180
 z119 := Tryd.sizeOf180
 t138 := Tryd.underlying182
 a138 := Tryd.isAgg182
 z138 := Tryd.sizeOf182
 v138 := Tryd.zeroValue182
 t139 := Tryd.underlying183
 a139 := Tryd.isAgg183
 z139 := Tryd.sizeOf183
 v139 := Tryd.zeroValue183
 g3 := by kernel_rfl
 g4 := by kernel_rfl }
open Go.RowKit in
/-- valid -/
theorem Tryd.utf8_ValidString (s : ByteArray) (w : World) (hs : s.size ≤ 9223372036854775807) (hT : Lib.Utf8Tabs (Tryd.laysValid_ren.g 3) (Tryd.laysValid_ren.g 4) w) :
  Calls Tryd.prog 114 #[.string s] w fun e w' => e = .returned (.bool (Lib.validD s.data.toList)) ∧ Below w.heap.size w w' := Any.utf8_ValidString Tryd.laysValid s w hs hT
end Go.Proofs
namespace Go.Proofs.YtlmmpncdemblbaaDoor.P
open Go.RowKit Go.Proofs.YtlmmpncdemblbaaDoorW.PrintWords Go.Proofs.YtlmmpncdemblbaaDoorW.PrintLast Go.Proofs.YtlmmpncdemblbaaDoorW.PrintMore
set_option linter.unusedVariables false
set_option linter.unusedSimpArgs false
set_option linter.unnecessarySimpa false
/-! The tables of unicode/utf8 lie in memory, too. -/
def Tabs (w : World) : Prop := Lib.Utf8Tabs (Tryd.laysValid_ren.g 3) (Tryd.laysValid_ren.g 4) w
/-- All three laid tables. -/
def LaidT (w : World) : Prop := Laid w ∧ Tabs w
theorem LaidT.below {w w1 : World} (h : LaidT w) (hb : Below w.heap.size w w1) : LaidT w1 := ⟨h.1.below hb, Utf8Tabs_below h.2 hb⟩
abbrev laid3 : List (String × DataW Unit) := [("paymaster/block.constants", Rows.laid_paymaster_block_constants), ("unicode/utf8.acceptRanges", Rows.laid_unicode_utf8_acceptRanges), ("unicode/utf8.first", Rows.laid_unicode_utf8_first)]
theorem kConst_of_reads {w : World} (h : Lib.VarReads Tryd.prog w "paymaster/block.constants" Rows.laid_paymaster_block_constants) : Laid w := by
 obtain ⟨g, t, cs, fuel, p, hg, ht, hv, htr⟩ := h
 obtain rfl : g = 2 := Option.some.inj (hg.symm.trans kGlobal)
 obtain rfl : t = 166 := Option.some.inj (ht.symm.trans kGlobalType)
 have e : Rows.laid_paymaster_block_constants = Lib.tabData (H := Unit) .u32 kConst := by rfl
 rw [e] at htr
 have hc := Lib.cells_of_tab Tryd.underlying166 Tryd.underlying120 (by kernel_rfl) (by kernel_rfl) htr
 intro i hi
 rw [World.var?_cell kGlobal hv i]
 have hl : i < kConst.length := hi
 rw [← Array.getElem?_toList, hc, List.getElem?_map, List.getElem?_eq_getElem hl]
 simp [List.getD, List.getElem?_eq_getElem hl]
theorem accept_data : Rows.laid_unicode_utf8_acceptRanges = Lib.acceptData := by kernel_rfl
theorem first_data : Rows.laid_unicode_utf8_first = Lib.firstData := by kernel_rfl
theorem laidT_of_met {w : World} (h : laidMetH Tryd.prog laid3 w) : LaidT w := by
 have h : laidMet Tryd.prog laid3 w := h
 refine ⟨kConst_of_reads (Lib.laidMet.reads h (.head _)), ?_⟩
 have h1 := Lib.laidMet.reads h (.tail _ (.head _))
 have h2 := Lib.laidMet.reads h (.tail _ (.tail _ (.head _)))
 rw [accept_data] at h1
 rw [first_data] at h2
 exact utf8Tabs_of_readsT (U8Types.of196 Tryd.laysValid) ⟨by kernel_rfl, by kernel_rfl, by kernel_rfl, by kernel_rfl, by kernel_rfl, by kernel_rfl, by kernel_rfl⟩ h2 h1
noncomputable def laidWorldT (os : Os) : World := World.laidAll Tryd.prog os laid3
theorem laidWorldT_met (os : Os) (args : Array Value) : laidMetH Tryd.prog laid3 ((laidWorldT os).forCall (fun _ _ => 0) ⟨#[], args, []⟩).memory := laidMet_laidAll args (by kernel_rfl) (by kernel_rfl)
end Go.Proofs.YtlmmpncdemblbaaDoor.P
namespace Go.Proofs.YtlmmpncdemblbaaDoor.P
open Go.RowKit Go.Proofs.YtlmmpncdemblbaaDoorW.PrintWords Go.Proofs.YtlmmpncdemblbaaDoorW.PrintLast Go.Proofs.YtlmmpncdemblbaaDoorW.PrintMore
set_option linter.unusedVariables false
set_option linter.unusedSimpArgs false
set_option linter.unnecessarySimpa false
/-! Ids: the program's way over runes, and the reference's. -/
/-- A text's rune at a place; its bytes (0: there is none). -/
def runeOf (d : Nat × Nat) : Int × Int := if d.1 = 65533 ∧ d.2 = 1 then (0, 0) else ((d.1 : Int), (d.2 : Int))
def runeI (s : ByteArray) (i : Nat) : Int × Int := runeOf (Utf8.decode s i)
theorem runeOf_bad : runeOf (65533, 1) = (0, 0) := rfl
theorem runeOf_ok (c w : Nat) (h : w ≠ 1) : runeOf (c, w) = ((c : Int), (w : Int)) := by unfold runeOf; rw [if_neg (fun q => h q.2)]
theorem get_nat (s : ByteArray) (i : Nat) (h : i < s.size) : s.get! i = s[i]'h := by simp [ByteArray.get!, getElem!_pos, h]; rfl
theorem bt_nat (s : ByteArray) (i : Nat) (h : i < s.size) : bt s (i : Int) = ((s.get! i).toNat : Int) := by
 unfold bt; rw [dif_pos (by simpa using h)]; simp [get_nat s i h]
/-- The reference's loop over the bytes behind the first. -/
theorem refTail (s : ByteArray) (hs : s.size ≤ 1000000) (i : Nat) (hi : i < s.size) (many n least j : Nat) (hj : 1 ≤ j) (hjm : j ≤ many) (hn : n < 4194304) (k : Nat) (hm : many ≤ 4) :
  paymasterref07_Rune.l0 (k + 1) s (i : Int) (many : Int) (n : Int) (least : Int) (j : Int) =
   if j < many then (if i + j < s.size ∧ (s.get! (i + j)).toNat / 64 = 2 then paymasterref07_Rune.l0 k s (i : Int) (many : Int) ((64 * n + (s.get! (i + j)).toNat % 64 : Nat) : Int) (least : Int) ((j + 1 : Nat) : Int) else some (0, 0))
   else (if n < least ∨ 1114111 < n ∨ (55296 ≤ n ∧ n < 57344) then some (0, 0) else some ((n : Int), (many : Int))) := by
 have hb := (s.get! (i + j)).toNat_lt
 simp only [paymasterref07_Rune.l0]
 by_cases h1 : j < many
 ·
  rw [if_pos (by omega), if_pos h1]
  by_cases h2 : i + j < s.size
  ·
   have e : wrap64 ((i : Int) + (j : Int)) = ((i + j : Nat) : Int) := by rw [wrap64_id (by omega) (by omega)]; omega
   rw [e, if_neg (by omega), if_pos (by omega), if_pos (by omega), bt_nat s _ h2]
   by_cases h3 : (s.get! (i + j)).toNat < 128
   ·
    rw [if_pos (by omega), if_neg (by omega)]
   ·
    by_cases h4 : 192 ≤ (s.get! (i + j)).toNat
    ·
     rw [if_neg (by omega), if_pos (by omega), if_neg (by omega)]
    ·
     rw [if_neg (by omega), if_neg (by omega), if_pos (by omega)]
     congr 1
     ·
      rw [wrap64_id (x := (((s.get! (i + j)).toNat : Nat) : Int)) (by omega) (by omega), wrap64_id (x := 64 * (n : Int)) (by omega) (by omega), wrap64_id (x := 64 * (n : Int) + _) (by omega) (by omega), wrap64_id (by omega) (by omega)]; omega
     ·
      rw [wrap64_id (by omega) (by omega)]; omega
  ·
   have e : wrap64 ((i : Int) + (j : Int)) = ((i + j : Nat) : Int) := by rw [wrap64_id (by omega) (by omega)]; omega
   rw [e, if_pos (by omega), if_neg (by omega)]
 ·
  rw [if_neg (by omega), if_neg h1]
  by_cases a1 : n < least
  ·
   rw [if_pos (by omega), if_pos (by omega)]
  ·
   by_cases a2 : 1114111 < n
   ·
    rw [if_neg (by omega), if_pos (by omega), if_pos (by omega)]
   ·
    by_cases a3 : 55296 ≤ n
    ·
     by_cases a4 : n < 57344
     ·
      rw [if_neg (by omega), if_neg (by omega), if_pos (by omega), if_pos (by omega), if_pos (by omega)]
     ·
      rw [if_neg (by omega), if_neg (by omega), if_pos (by omega), if_neg (by omega), if_neg (by omega)]
    ·
     rw [if_neg (by omega), if_neg (by omega), if_neg (by omega), if_neg (by omega)]
theorem refTail_ev {s : ByteArray} (hs : s.size ≤ 1000000) {i : Nat} (hi : i < s.size) {many n least j : Nat} (hj : 1 ≤ j) (hjm : j ≤ many) (hn : n < 4194304) (hm : many ≤ 4) {r : Int × Int}
  (h : Ev (fun k => if j < many then (if i + j < s.size ∧ (s.get! (i + j)).toNat / 64 = 2 then paymasterref07_Rune.l0 k s (i : Int) (many : Int) ((64 * n + (s.get! (i + j)).toNat % 64 : Nat) : Int) (least : Int) ((j + 1 : Nat) : Int) else some (0, 0))
   else (if n < least ∨ 1114111 < n ∨ (55296 ≤ n ∧ n < 57344) then some (0, 0) else some ((n : Int), (many : Int)))) r) :
  Ev (fun k => paymasterref07_Rune.l0 k s (i : Int) (many : Int) (n : Int) (least : Int) (j : Int)) r := Ev.step (fun k => refTail s hs i hi many n least j hj hjm hn k hm) h
theorem ev_ite {α : Type} {c : Prop} [Decidable c] {g f : Nat → Option α} {r q : α} (h : c → Ev g r) (k : ¬ c → Ev f q) : Ev (fun n => if c then g n else f n) (if c then r else q) := by
 by_cases hc : c
 ·
  simp only [if_pos hc]; exact h hc
 ·
  simp only [if_neg hc]; exact k hc
def endI (n many least : Nat) : Int × Int := if n < least ∨ 1114111 < n ∨ (55296 ≤ n ∧ n < 57344) then (0, 0) else ((n : Int), (many : Int))
theorem refEnd_ev {s : ByteArray} (hs : s.size ≤ 1000000) {i : Nat} (hi : i < s.size) {n least j : Nat} (hj : 1 ≤ j) (hn : n < 4194304) (hm : j ≤ 4) :
  Ev (fun k => paymasterref07_Rune.l0 k s (i : Int) (j : Int) (n : Int) (least : Int) (j : Int)) (endI n j least) := by
 refine refTail_ev hs hi hj (Nat.le_refl _) hn hm ?_
 simp only [if_neg (Nat.lt_irrefl j)]
 unfold endI
 split <;> exact Ev.now _
theorem refMid_ev {s : ByteArray} (hs : s.size ≤ 1000000) {i : Nat} (hi : i < s.size) {many n least j : Nat} (hj : 1 ≤ j) (hjm : j < many) (hn : n < 4194304) (hm : many ≤ 4) {r : Int × Int}
  (h : Ev (fun k => paymasterref07_Rune.l0 k s (i : Int) (many : Int) ((64 * n + (s.get! (i + j)).toNat % 64 : Nat) : Int) (least : Int) ((j + 1 : Nat) : Int)) r) :
  Ev (fun k => paymasterref07_Rune.l0 k s (i : Int) (many : Int) (n : Int) (least : Int) (j : Int)) (if i + j < s.size ∧ (s.get! (i + j)).toNat / 64 = 2 then r else (0, 0)) := by
 refine refTail_ev hs hi hj (by omega) hn hm ?_
 simp only [if_pos hjm]
 exact ev_ite (fun _ => h) (fun _ => Ev.now _)
theorem rune_1 (s : ByteArray) (i B : Nat) (hB : (s.get! i).toNat = B) (h : B < 128) : runeI s i = ((B : Int), 1) := by
 have hd : Utf8.decode s i = (B, 1) := by simp only [Utf8.decode, Nat.add_zero, hB, if_pos h]
 rw [runeI, hd, runeOf, if_neg (by dsimp only; omega)]; rfl
set_option maxRecDepth 100000 in
theorem rune_0 (s : ByteArray) (i B : Nat) (hB : (s.get! i).toNat = B) (h : 128 ≤ B) (h' : B < 192 ∨ 248 ≤ B) (hb : B < 256) : runeI s i = (0, 0) := by
 have e1 : (B / 32 == 6) = false := by simp; omega
 have e2 : (B / 16 == 14) = false := by simp; omega
 have e3 : (B / 8 == 30) = false := by simp; omega
 have e4 : ¬ B < 128 := by omega
 have hd : Utf8.decode s i = (65533, 1) := by simp [Utf8.decode, Nat.add_zero, hB, e4, e1, e2, e3, Utf8.runeError]
 rw [runeI, hd, runeOf_bad]
def contI (s : ByteArray) (i : Nat) : Prop := i < s.size ∧ (s.get! i).toNat / 64 = 2
instance (s : ByteArray) (i : Nat) : Decidable (contI s i) := by unfold contI; infer_instance
theorem cont_b (s : ByteArray) (i : Nat) : (decide (i < s.size) && (s.get! i).toNat / 64 == 2) = decide (contI s i) := by
 rw [Bool.eq_iff_iff, Bool.and_eq_true, decide_eq_true_eq, decide_eq_true_eq, beq_iff_eq]; rfl
set_option maxRecDepth 100000 in
theorem rune_2 (s : ByteArray) (i B : Nat) (hB : (s.get! i).toNat = B) (h : 192 ≤ B) (h' : B < 224) : runeI s i = if contI s (i + 1) then endI (64 * (B - 192) + (s.get! (i + 1)).toNat % 64) 2 128 else (0, 0) := by
 have e1 : (B / 32 == 6) = true := by simp; omega
 have e2 : (B / 16 == 14) = false := by simp; omega
 have e3 : (B / 8 == 30) = false := by simp; omega
 have e4 : ¬ B < 128 := by omega
 have e5 : B % 32 = B - 192 := by omega
 have h1 : (s.get! (i + 1)).toNat % 64 < 64 := Nat.mod_lt _ (by decide)
 have hd : Utf8.decode s i = if contI s (i + 1) then (if (B - 192) * 64 + (s.get! (i + 1)).toNat % 64 ≥ 128 then ((B - 192) * 64 + (s.get! (i + 1)).toNat % 64, 2) else (65533, 1)) else (65533, 1) := by
  simp only [Utf8.decode, Nat.add_zero, hB, if_neg e4, e1, e2, e3, e5, cont_b, Bool.true_and, Bool.false_and, Bool.false_eq_true, if_false, decide_eq_true_eq, Utf8.runeError]
 generalize (s.get! (i + 1)).toNat % 64 = x at hd h1 ⊢
 rw [runeI, hd]
 clear hd
 by_cases q : contI s (i + 1)
 ·
  rw [if_pos q, if_pos q]
  by_cases q2 : (B - 192) * 64 + x ≥ 128
  ·
   rw [if_pos q2, runeOf_ok _ _ (by decide), endI, if_neg (by omega)]; congr 1; omega
  ·
   rw [if_neg q2, runeOf_bad, endI, if_pos (by omega)]
 ·
  rw [if_neg q, if_neg q, runeOf_bad]
theorem valid_nat (c : Nat) : (Utf8.valid (c : Int) = true) ↔ c < 55296 ∨ (57344 ≤ c ∧ c ≤ 1114111) := by
 unfold Utf8.valid; simp; omega
theorem rune_3 (s : ByteArray) (i B : Nat) (hB : (s.get! i).toNat = B) (h : 224 ≤ B) (h' : B < 240) : runeI s i = if contI s (i + 1) then (if contI s (i + 2) then endI (64 * (64 * (B - 224) + (s.get! (i + 1)).toNat % 64) + (s.get! (i + 2)).toNat % 64) 3 2048 else (0, 0)) else (0, 0) := by
 have e1 : (B / 32 == 6) = false := by simp; omega
 have e2 : (B / 16 == 14) = true := by simp; omega
 have e3 : (B / 8 == 30) = false := by simp; omega
 have e4 : ¬ B < 128 := by omega
 have e5 : B % 16 = B - 224 := by omega
 have h1 : (s.get! (i + 1)).toNat % 64 < 64 := Nat.mod_lt _ (by decide)
 have h2 : (s.get! (i + 2)).toNat % 64 < 64 := Nat.mod_lt _ (by decide)
 have hd : Utf8.decode s i = if contI s (i + 1) ∧ contI s (i + 2) then (if (B - 224) * 4096 + (s.get! (i + 1)).toNat % 64 * 64 + (s.get! (i + 2)).toNat % 64 ≥ 2048 ∧ Utf8.valid (((B - 224) * 4096 + (s.get! (i + 1)).toNat % 64 * 64 + (s.get! (i + 2)).toNat % 64 : Nat) : Int) = true then ((B - 224) * 4096 + (s.get! (i + 1)).toNat % 64 * 64 + (s.get! (i + 2)).toNat % 64, 3) else (65533, 1)) else (65533, 1) := by
  simp only [Utf8.decode, Nat.add_zero, hB, if_neg e4, e1, e2, e3, e5, cont_b, Bool.true_and, Bool.false_and, Bool.false_eq_true, if_false, Bool.and_eq_true, decide_eq_true_eq, Utf8.runeError]
 generalize (s.get! (i + 1)).toNat % 64 = x at hd h1 ⊢
 generalize (s.get! (i + 2)).toNat % 64 = y at hd h2 ⊢
 simp only [valid_nat] at hd
 rw [runeI, hd]
 clear hd
 by_cases q : contI s (i + 1)
 ·
  by_cases q1 : contI s (i + 2)
  ·
   rw [if_pos ⟨q, q1⟩, if_pos q, if_pos q1]
   split
   ·
    rw [runeOf_ok _ _ (by decide), endI, if_neg (by omega)]; congr 1; omega
   ·
    rw [runeOf_bad, endI, if_pos (by omega)]
  ·
   rw [if_neg (fun hh => q1 hh.2), if_pos q, if_neg q1, runeOf_bad]
 ·
  rw [if_neg (fun hh => q hh.1), if_neg q, runeOf_bad]
theorem rune_4 (s : ByteArray) (i B : Nat) (hB : (s.get! i).toNat = B) (h : 240 ≤ B) (h' : B < 248) : runeI s i = if contI s (i + 1) then (if contI s (i + 2) then (if contI s (i + 3) then endI (64 * (64 * (64 * (B - 240) + (s.get! (i + 1)).toNat % 64) + (s.get! (i + 2)).toNat % 64) + (s.get! (i + 3)).toNat % 64) 4 65536 else (0, 0)) else (0, 0)) else (0, 0) := by
 have e1 : (B / 32 == 6) = false := by simp; omega
 have e2 : (B / 16 == 14) = false := by simp; omega
 have e3 : (B / 8 == 30) = true := by simp; omega
 have e4 : ¬ B < 128 := by omega
 have e5 : B % 8 = B - 240 := by omega
 have h1 : (s.get! (i + 1)).toNat % 64 < 64 := Nat.mod_lt _ (by decide)
 have h2 : (s.get! (i + 2)).toNat % 64 < 64 := Nat.mod_lt _ (by decide)
 have h3 : (s.get! (i + 3)).toNat % 64 < 64 := Nat.mod_lt _ (by decide)
 have hd : Utf8.decode s i = if (contI s (i + 1) ∧ contI s (i + 2)) ∧ contI s (i + 3) then (if (B - 240) * 262144 + (s.get! (i + 1)).toNat % 64 * 4096 + (s.get! (i + 2)).toNat % 64 * 64 + (s.get! (i + 3)).toNat % 64 ≥ 65536 ∧ Utf8.valid (((B - 240) * 262144 + (s.get! (i + 1)).toNat % 64 * 4096 + (s.get! (i + 2)).toNat % 64 * 64 + (s.get! (i + 3)).toNat % 64 : Nat) : Int) = true then ((B - 240) * 262144 + (s.get! (i + 1)).toNat % 64 * 4096 + (s.get! (i + 2)).toNat % 64 * 64 + (s.get! (i + 3)).toNat % 64, 4) else (65533, 1)) else (65533, 1) := by
  simp only [Utf8.decode, Nat.add_zero, hB, if_neg e4, e1, e2, e3, e5, cont_b, Bool.true_and, Bool.false_and, Bool.false_eq_true, if_false, Bool.and_eq_true, decide_eq_true_eq, Utf8.runeError]
 generalize (s.get! (i + 1)).toNat % 64 = x at hd h1 ⊢
 generalize (s.get! (i + 2)).toNat % 64 = y at hd h2 ⊢
 generalize (s.get! (i + 3)).toNat % 64 = z at hd h3 ⊢
 simp only [valid_nat] at hd
 rw [runeI, hd]
 clear hd
 by_cases q : contI s (i + 1)
 ·
  by_cases q1 : contI s (i + 2)
  ·
   by_cases q2 : contI s (i + 3)
   ·
    rw [if_pos ⟨⟨q, q1⟩, q2⟩, if_pos q, if_pos q1, if_pos q2]
    split
    ·
     rw [runeOf_ok _ _ (by decide), endI, if_neg (by omega)]; congr 1; omega
    ·
     rw [runeOf_bad, endI, if_pos (by omega)]
   ·
    rw [if_neg (fun hh => q2 hh.2), if_pos q, if_pos q1, if_neg q2, runeOf_bad]
  ·
   rw [if_neg (fun hh => q1 hh.1.2), if_pos q, if_neg q1, runeOf_bad]
 ·
  rw [if_neg (fun hh => q hh.1.1), if_neg q, runeOf_bad]
set_option maxRecDepth 100000 in
theorem refRune_j0 (s : ByteArray) (i B k : Nat) (hi : i < s.size) (hB : (s.get! i).toNat = B) (hb : B < 256) : paymasterref07_Rune.j0 (k + 1) s (i : Int) false = if B < 128 then some ((B : Int), 1) else paymasterref07_Rune.j1 k s (i : Int) (B : Int) (decide (192 ≤ B ∧ B < 224)) := by
 have w0 : wrap64 (B : Int) = (B : Int) := wrap64_id (by omega) (by omega)
 simp only [paymasterref07_Rune.j0]
 rw [if_neg (by decide), if_pos (by omega), if_pos (by omega), bt_nat s i hi, hB, w0]
 by_cases h1 : B < 128
 ·
  rw [if_pos (by omega), if_pos h1]
 ·
  rw [if_neg (by omega), if_neg h1]
  by_cases h2 : 192 ≤ B
  ·
   rw [if_pos (by omega)]; congr 1; exact decide_eq_decide.2 (by omega)
  ·
   rw [if_neg (by omega), decide_eq_false (by omega)]
set_option maxRecDepth 100000 in
theorem refRune_ev (s : ByteArray) (hs : s.size ≤ 1000000) (i : Nat) (hi : i < s.size) : Ev (fun k => paymasterref07_Rune.f k s (i : Int)) (runeI s i) := by
 obtain ⟨B, hB⟩ : ∃ B, (s.get! i).toNat = B := ⟨_, rfl⟩
 have hb : B < 256 := by rw [← hB]; exact (s.get! i).toNat_lt
 refine Ev.congr (f := fun k => paymasterref07_Rune.j0 k s (i : Int) false) (fun k => ?_) ?_
 ·
  unfold paymasterref07_Rune.f; rw [if_neg (by omega), decide_eq_false (by omega)]
 refine Ev.step (fun k => refRune_j0 s i B k hi hB hb) ?_
 by_cases c1 : B < 128
 ·
  simp only [if_pos c1]; rw [rune_1 s i B hB c1]; exact Ev.now _
 simp only [if_neg c1]
 by_cases c2 : 192 ≤ B ∧ B < 224
 ·
  rw [decide_eq_true c2, rune_2 s i B hB c2.1 c2.2]
  refine Ev.step (f := fun k => paymasterref07_Rune.j3 k s (i : Int) 2 ((B - 192 : Nat) : Int) 128) (fun k => ?_) ?_
  ·
   simp only [paymasterref07_Rune.j1]; rw [if_pos trivial, wrap64_id (by omega) (by omega)]; congr 1; omega
  refine Ev.step (f := fun k => paymasterref07_Rune.l0 k s (i : Int) ((2 : Nat) : Int) ((B - 192 : Nat) : Int) ((128 : Nat) : Int) ((1 : Nat) : Int)) (fun k => rfl) ?_
  exact refMid_ev hs hi (by decide) (by decide) (by omega) (by decide) (refEnd_ev hs hi (by decide) (by omega) (by decide))
 rw [decide_eq_false c2]
 have hj1 : ∀ k, paymasterref07_Rune.j1 (k + 1) s (i : Int) (B : Int) false = paymasterref07_Rune.j2 k s (i : Int) (B : Int) (decide (224 ≤ B ∧ B < 240)) := by
  intro k
  simp only [paymasterref07_Rune.j1]; rw [if_neg (by decide)]
  by_cases h2 : 224 ≤ B
  ·
   rw [if_pos (by omega)]; congr 1; exact decide_eq_decide.2 (by omega)
  ·
   rw [if_neg (by omega), decide_eq_false (by omega)]
 refine Ev.step hj1 ?_
 by_cases c3 : 224 ≤ B ∧ B < 240
 ·
  rw [decide_eq_true c3, rune_3 s i B hB c3.1 c3.2]
  refine Ev.step (f := fun k => paymasterref07_Rune.j3 k s (i : Int) 3 ((B - 224 : Nat) : Int) 2048) (fun k => ?_) ?_
  ·
   simp only [paymasterref07_Rune.j2]; rw [if_pos trivial, wrap64_id (by omega) (by omega)]; congr 1; omega
  refine Ev.step (f := fun k => paymasterref07_Rune.l0 k s (i : Int) ((3 : Nat) : Int) ((B - 224 : Nat) : Int) ((2048 : Nat) : Int) ((1 : Nat) : Int)) (fun k => rfl) ?_
  exact refMid_ev hs hi (by decide) (by decide) (by omega) (by decide) (refMid_ev hs hi (by decide) (by decide) (by omega) (by decide) (refEnd_ev hs hi (by decide) (by omega) (by decide)))
 rw [decide_eq_false c3]
 by_cases c4 : 240 ≤ B ∧ B < 248
 ·
  rw [rune_4 s i B hB c4.1 c4.2]
  refine Ev.step (f := fun k => paymasterref07_Rune.j3 k s (i : Int) 4 ((B - 240 : Nat) : Int) 65536) (fun k => ?_) ?_
  ·
   simp only [paymasterref07_Rune.j2]; rw [if_neg (by decide), if_pos (by omega), if_pos (by omega), wrap64_id (by omega) (by omega)]; congr 1; omega
  refine Ev.step (f := fun k => paymasterref07_Rune.l0 k s (i : Int) ((4 : Nat) : Int) ((B - 240 : Nat) : Int) ((65536 : Nat) : Int) ((1 : Nat) : Int)) (fun k => rfl) ?_
  exact refMid_ev hs hi (by decide) (by decide) (by omega) (by decide) (refMid_ev hs hi (by decide) (by decide) (by omega) (by decide) (refMid_ev hs hi (by decide) (by decide) (by omega) (by decide) (refEnd_ev hs hi (by decide) (by omega) (by decide))))
 ·
  rw [rune_0 s i B hB (by omega) (by omega) hb]
  refine Ev.step (f := fun k => some (0, 0)) (fun k => ?_) (Ev.now _)
  simp only [paymasterref07_Rune.j2]; rw [if_neg (by decide)]
  by_cases h2 : 240 ≤ B
  ·
   rw [if_pos (by omega), if_neg (by omega)]
  ·
   rw [if_neg (by omega)]
/-- May a rune be an Id's? -/
def withinI (c : Int) : Bool := decide (97 ≤ c ∧ c ≤ 122) || (decide (65 ≤ c ∧ c ≤ 90) || (decide (48 ≤ c ∧ c ≤ 57) || (decide (c = 46 ∨ c = 95 ∨ c = 45) || decide (161 ≤ c))))
theorem withinI_iff (c : Int) : withinI c = true ↔ (97 ≤ c ∧ c ≤ 122) ∨ (65 ≤ c ∧ c ≤ 90) ∨ (48 ≤ c ∧ c ≤ 57) ∨ (c = 46 ∨ c = 95 ∨ c = 45) ∨ 161 ≤ c := by
 simp only [withinI, Bool.or_eq_true, decide_eq_true_eq]
theorem withinI_t {c : Int} (h : (97 ≤ c ∧ c ≤ 122) ∨ (65 ≤ c ∧ c ≤ 90) ∨ (48 ≤ c ∧ c ≤ 57) ∨ (c = 46 ∨ c = 95 ∨ c = 45) ∨ 161 ≤ c) : some true = some (withinI c) := by rw [(withinI_iff c).2 h]
theorem withinI_d {c : Int} (h : ¬ ((97 ≤ c ∧ c ≤ 122) ∨ (65 ≤ c ∧ c ≤ 90) ∨ (48 ≤ c ∧ c ≤ 57) ∨ (c = 46 ∨ c = 95 ∨ c = 45))) : some (decide (c ≥ 161)) = some (withinI c) := by
 congr 1
 rw [Bool.eq_iff_iff, decide_eq_true_eq, withinI_iff]; omega
theorem refWithin_eq (c : Int) : paymasterref07_within.f c = some (withinI c) := by
 unfold paymasterref07_within.f
 repeat' split
 all_goals first | exact withinI_t (by omega) | exact withinI_d (by omega)
/-- From a place on, with so many bytes ahead at most: may it be an Id? -/
def idFrom (s : ByteArray) : Nat → Nat → Nat → Bool
 | 0, n, _ => decide (1 ≤ n) && decide (n ≤ 24)
 | b + 1, n, i => if i < s.size then (if (runeI s i).2 = 0 then false else if withinI (runeI s i).1 = true then idFrom s b (n + 1) (i + (Utf8.decode s i).2) else false) else decide (1 ≤ n) && decide (n ≤ 24)
def mayIdI (s : ByteArray) : Bool := idFrom s s.size 0 0
theorem runeI_2 (s : ByteArray) (i : Nat) (hi : i < s.size) : (runeI s i).2 = 0 ∨ (runeI s i).2 = ((Utf8.decode s i).2 : Int) := by
 unfold runeI runeOf; split
 ·
  exact .inl rfl
 ·
  exact .inr rfl
theorem decode_4 (s : ByteArray) (i : Nat) : (Utf8.decode s i).2 ≤ 4 := by
 simp only [Utf8.decode]
 repeat' split
 all_goals simp
theorem refMayId_loop (s : ByteArray) (hs : s.size ≤ 1000000) : ∀ b n i : Nat, s.size ≤ i + b → n ≤ i → i ≤ s.size + 4 → Ev (fun k => paymasterref07_MayId.l0 k s (n : Int) (i : Int)) (idFrom s b n i)
 | b, n, i, hb, hn, hi4 => by
  by_cases hi : i < s.size
  ·
   obtain ⟨b, rfl⟩ : ∃ c, b = c + 1 := ⟨b - 1, by omega⟩
   unfold idFrom
   rw [if_pos hi]
   have hw := Lib.decode_width_pos s i hi
   have h4 := decode_4 s i
   refine Ev.step (f := fun k => (paymasterref07_Rune.f k s (i : Int)).bind fun bt137 => (if bt137.2 = 0 then (some false) else ((paymasterref07_within.f bt137.1).bind fun t139 => (if t139 = true then (paymasterref07_MayId.l0 k s (wrap64 ((n : Int) + 1)) (wrap64 ((i : Int) + bt137.2))) else (some false))))) (fun k => ?_) ?_
   ·
    simp only [paymasterref07_MayId.l0]; rw [if_pos (by omega)]
   refine Ev.bind (refRune_ev s hs i hi) ?_
   by_cases h0 : (runeI s i).2 = 0
   ·
    simp only [if_pos h0]; exact Ev.now _
   ·
    simp only [if_neg h0, refWithin_eq, Option.bind_some]
    have e2 : (runeI s i).2 = ((Utf8.decode s i).2 : Int) := (runeI_2 s i hi).resolve_left h0
    by_cases hw1 : withinI (runeI s i).1 = true
    ·
     simp only [if_pos hw1]
     rw [e2, wrap64_id (x := (n : Int) + 1) (by omega) (by omega), wrap64_id (by omega) (by omega)]
     exact refMayId_loop s hs b (n + 1) (i + (Utf8.decode s i).2) (by omega) (by omega) (by omega)
    ·
     simp only [if_neg hw1]; exact Ev.now _
  ·
   have e : idFrom s b n i = (decide (1 ≤ n) && decide (n ≤ 24)) := by
    cases b with
    | zero => rfl
    | succ b => unfold idFrom; rw [if_neg hi]
   rw [e]
   refine Ev.step (f := fun _ => some _) (fun k => ?_) (Ev.now _)
   simp only [paymasterref07_MayId.l0]; rw [if_neg (by omega)]
   by_cases h1 : 1 ≤ n
   ·
    rw [if_pos (by omega), decide_eq_true h1, Bool.true_and]; congr 1; exact decide_eq_decide.2 (by omega)
   ·
    rw [if_neg (by omega), decide_eq_false h1, Bool.false_and]
theorem refMayId_ev (s : ByteArray) (hs : s.size ≤ 1000000) : Ev (fun k => paymasterref07_MayId.f k s) (mayIdI s) := refMayId_loop s hs s.size 0 0 (by omega) (by omega) (by omega)
theorem decode_congr (a b : ByteArray) (i j : Nat) (hg : ∀ k, k < 4 → a.get! (i + k) = b.get! (j + k)) (hs : ∀ k, k < 4 → (i + k < a.size ↔ j + k < b.size)) : Utf8.decode a i = Utf8.decode b j := by
 simp only [Utf8.decode, hg 0 (by decide), hg 1 (by decide), hg 2 (by decide), hg 3 (by decide), decide_eq_decide.2 (hs 1 (by decide)), decide_eq_decide.2 (hs 2 (by decide)), decide_eq_decide.2 (hs 3 (by decide))]
theorem get_list (s : ByteArray) (i : Nat) : s.get! i = s.data.toList.getD i 0 := by
 by_cases h : i < s.size
 ·
  rw [get_nat s i h, List.getD_eq_getElem?_getD, List.getElem?_eq_getElem (by simpa using h)]; rfl
 ·
  rw [List.getD_eq_getElem?_getD, List.getElem?_eq_none (by simpa using h)]
  have h2 : s.data[i]? = none := Array.getElem?_eq_none (Nat.not_lt.1 h)
  simp [ByteArray.get!, getElem!_def, h2]; rfl
theorem decodeL_drop (s : ByteArray) (i : Nat) (hi : i ≤ s.size) : Lib.decodeL (s.data.toList.drop i) = Utf8.decode s i := by
 unfold Lib.decodeL
 refine decode_congr _ _ _ _ (fun k _ => ?_) (fun k _ => ?_)
 ·
  rw [get_list, get_list, List.getD_eq_getElem?_getD, List.getD_eq_getElem?_getD]
  show (s.data.toList.drop i)[0 + k]?.getD 0 = _
  rw [List.getElem?_drop, Nat.zero_add]
 ·
  have e : (⟨(s.data.toList.drop i).toArray⟩ : ByteArray).size = s.size - i := by
   show (s.data.toList.drop i).toArray.size = _
   rw [List.size_toArray, List.length_drop]; rfl
  rw [e]; omega
def validFrom (s : ByteArray) : Nat → Nat → Bool
 | 0, _ => true
 | b + 1, i => if i < s.size then (if (runeI s i).2 = 0 then false else validFrom s b (i + (Utf8.decode s i).2)) else true
theorem validFrom_eq (s : ByteArray) : ∀ b i : Nat, i ≤ s.size + 4 → Lib.validGoD b (s.data.toList.drop i) = validFrom s b i
 | 0, _, _ => rfl
 | b + 1, i, h => by
  unfold Lib.validGoD validFrom
  by_cases hi : i < s.size
  ·
   have hl : i < s.data.toList.length := by simpa using hi
   rw [if_neg (by rw [List.drop_eq_nil_iff]; omega), if_pos hi, decodeL_drop s i (by omega), List.drop_drop]
   have h4 := decode_4 s i
   by_cases hb : (Utf8.decode s i).1 = 65533 ∧ (Utf8.decode s i).2 = 1
   ·
    rw [if_pos hb, if_pos (by unfold runeI runeOf; rw [if_pos hb])]
   ·
    have hw := Lib.decode_width_pos s i hi
    rw [if_neg hb, if_neg (by unfold runeI runeOf; rw [if_neg hb]; dsimp only; omega)]
    by_cases h5 : i + (Utf8.decode s i).2 ≤ s.size + 4
    ·
     exact validFrom_eq s b _ h5
    ·
     omega
  ·
   rw [if_pos (by rw [List.drop_eq_nil_iff]; simp; exact Nat.not_lt.1 hi), if_neg hi]
def allFrom (s : ByteArray) : Nat → Nat → Bool
 | 0, _ => true
 | b + 1, i => if i < s.size then (withinI (Utf8.decode s i).1 && allFrom s b (i + (Utf8.decode s i).2)) else true
theorem allFrom_end (s : ByteArray) (b i : Nat) (h : ¬ i < s.size) : allFrom s b i = true := by
 cases b with
 | zero => rfl
 | succ b => unfold allFrom; rw [if_neg h]
theorem idFrom_eq (s : ByteArray) : ∀ b n i : Nat, s.size ≤ i + b → idFrom s b n i = ((decide (1 ≤ n + Lib.runeCountFrom s b i) && decide (n + Lib.runeCountFrom s b i ≤ 24)) && (validFrom s b i && allFrom s b i))
 | b, n, i, hb => by
  by_cases hi : i < s.size
  ·
   obtain ⟨b, rfl⟩ : ∃ c, b = c + 1 := ⟨b - 1, by omega⟩
   have hw := Lib.decode_width_pos s i hi
   unfold idFrom validFrom allFrom Lib.runeCountFrom
   rw [if_pos hi, if_pos hi, if_pos hi, if_pos hi]
   by_cases h0 : (runeI s i).2 = 0
   ·
    rw [if_pos h0, if_pos h0]; simp
   ·
    rw [if_neg h0, if_neg h0]
    have e1 : (runeI s i).1 = ((Utf8.decode s i).1 : Int) := by
     unfold runeI runeOf at h0 ⊢
     split at h0
     ·
      exact absurd rfl h0
     ·
      rename_i h; rw [if_neg h]
    rw [e1, idFrom_eq s b (n + 1) _ (by omega), show n + 1 + Lib.runeCountFrom s b (i + (Utf8.decode s i).2) = n + (1 + Lib.runeCountFrom s b (i + (Utf8.decode s i).2)) by omega]
    cases withinI ((Utf8.decode s i).1 : Int) <;> simp
  ·
   have e : idFrom s b n i = (decide (1 ≤ n) && decide (n ≤ 24)) := by
    cases b with
    | zero => rfl
    | succ b => unfold idFrom; rw [if_neg hi]
   have e2 : validFrom s b i = true := by
    cases b with
    | zero => rfl
    | succ b => unfold validFrom; rw [if_neg hi]
   rw [e, e2, allFrom_end s b i hi, Lib.runeCountFrom_end s b i hi]; simp
theorem mayIdI_eq (s : ByteArray) : mayIdI s = ((decide (1 ≤ Lib.runeCount s) && decide (Lib.runeCount s ≤ 24)) && (Lib.validD s.data.toList && allFrom s s.size 0)) := by
 unfold mayIdI Lib.runeCount Lib.validD
 rw [idFrom_eq s s.size 0 0 (by omega), Nat.zero_add]
 have := validFrom_eq s s.size 0 (by omega)
 rw [List.drop_zero] at this
 rw [show s.data.toList.length = s.size by simp, this]
end Go.Proofs.YtlmmpncdemblbaaDoor.P
namespace Go.Proofs.YtlmmpncdemblbaaDoor.P
open Go.RowKit Go.Proofs.YtlmmpncdemblbaaDoorW.PrintWords Go.Proofs.YtlmmpncdemblbaaDoorW.PrintLast Go.Proofs.YtlmmpncdemblbaaDoorW.PrintMore
set_option linter.unusedVariables false
set_option linter.unusedSimpArgs false
set_option linter.unnecessarySimpa false
/-! tag.MayId: may a text be an Id? -/
theorem tagWithin_eq (c : Int) (hv : Utf8.valid c = true) : tag_within.f c = some (withinI c) := by
 have e : strings_ContainsRune.f (⟨#[46, 95, 45]⟩ : ByteArray) c = some (dotI c) := by unfold strings_ContainsRune.f; rw [if_pos ⟨rfl, hv⟩]
 have hd : dotI c = true ↔ (c = 46 ∨ c = 95 ∨ c = 45) := by simp only [dotI, decide_eq_true_eq]
 unfold tag_within.f
 simp only [e, Option.bind_some]
 repeat' split
 all_goals first | exact withinI_t (by omega) | (rename_i h; rw [hd] at h; first | exact withinI_t (by omega) | exact withinI_d (by omega))
theorem decode_valid (s : ByteArray) (i : Nat) (hi : i < s.size) : Utf8.valid ((Utf8.decode s i).1 : Int) = true := by
 obtain ⟨B, hB⟩ : ∃ B, (s.get! i).toNat = B := ⟨_, rfl⟩
 have hb : B < 256 := by rw [← hB]; exact (s.get! i).toNat_lt
 have h1 := (s.get! (i + 1)).toNat_lt
 have h2 := (s.get! (i + 2)).toNat_lt
 rw [valid_nat]
 simp only [Utf8.decode, Nat.add_zero, hB, valid_nat, Utf8.runeError, Bool.and_eq_true, decide_eq_true_eq, beq_iff_eq]
 repeat' split
 all_goals (try dsimp only)
 all_goals omega
theorem iterPos_at {w : World} {k : Nat} {s : ByteArray} {p : Nat} (h : w.heap[k]? = some (.stringIter s p)) : w.iterPos k = p := by unfold World.iterPos; rw [h]
set_option maxRecDepth 100000 in
set_option maxHeartbeats 1000000 in
theorem mayId.calls (s : ByteArray) (hs : s.size ≤ 1000000) (w : World) (hK : LaidT w) : Calls Tryd.prog 97 #[.string s] w fun e w' => e = .returned (.bool (mayIdI s)) ∧ Below w.heap.size w w' := by
 have HK := Aside0.mk hK
 have HS := Aside0.mk hs
 have HE := Aside0.mk (mayIdI_eq s)
 clear hK hs
 have hrc : (Lib.runeCount s : Int) ≤ 1000000 := by have := Lib.runeCount_le s; have := HS.out; omega
 have hr0 : (0 : Int) ≤ (Lib.runeCount s : Int) := by omega
 obtain ⟨n, hn⟩ : ∃ n, Lib.runeCount s = n := ⟨_, rfl⟩
 rw [hn] at hrc hr0
 go_enter Tryd.func97, Tryd.ntmps97
 go_wp2_with fail
 refine (Tryd.utf8_RuneCountInString s _ (by have := HS.out; omega)).mono ?_
 rw [hn]
 have HN := Aside0.mk hn
 clear hn
 rintro e w1 ⟨rfl, pos, hw1⟩
 have HB := Aside0.mk (show Below w.heap.size w w1 by rw [hw1]; exact below_iter w _ _)
 clear hw1
 by_cases h1 : 1 ≤ n
 ·
  by_cases h2 : n ≤ 24
  ·
   have b1 : decide ((n : Int) < 1) = false := decide_eq_false (by omega)
   have b2 : decide ((24 : Int) < (n : Int)) = false := decide_eq_false (by omega)
   go_wp2_with fail
   refine (Tryd.utf8_ValidString s _ (by have := HS.out; omega) (HK.out.below HB.out).2).mono ?_
   rintro e w2 ⟨rfl, hb⟩
   have HB2 := Aside0.mk (HB.out.trans (hb.mono HB.out.size))
   clear hb
   cases hv : Lib.validD s.data.toList with
   | false =>
    have HV := Aside0.mk hv
    clear hv
    go_wp2
    go_ret
    exact ⟨by rw [HE.out, HV.out]; simp, HB2.out⟩
   | true =>
    have HV := Aside0.mk hv
    clear hv
    go_wp2
    clear hrc hr0 b1 b2
    go_loopw [] (fun wr => ∃ pos fuel : Nat, Aside0 (wr.heap[w2.heap.size]? = some (.stringIter s pos)) ∧ Aside0 (Below w2.heap.size w2 wr) ∧ Aside0 (allFrom s fuel pos = allFrom s s.size 0) ∧ s.size ≤ pos + fuel) (fun wr => s.size - wr.iterPos w2.heap.size)
    case atStart => exact ⟨0, s.size, ⟨World.iter_heap w2 s 0⟩, ⟨below_iter w2 s 0⟩, ⟨rfl⟩, by omega⟩
    case round =>
     obtain ⟨pos, fuel, HIT, HBW, HA, hf⟩ := hrel
     by_cases hp : pos < s.size
     ·
      have hnx : ∀ ty, (Instr.next (.pointer (some ⟨w2.heap.size, 0, none⟩)) true ty).run Tryd.prog wr = _ := fun ty => Lib.run_next_any_at wr w2.heap.size s pos ty HIT.out hp
      have hwd := Lib.decode_width_pos s pos hp
      obtain ⟨fuel, rfl⟩ : ∃ f', fuel = f' + 1 := ⟨fuel - 1, by omega⟩
      have HP0 := Aside0.mk (iterPos_at HIT.out)
      have HIT2 := Aside0.mk (Lib.iterAt_heap wr w2.heap.size s pos (pos + (Utf8.decode s pos).2) HIT.out)
      have HBW2 := Aside0.mk (Lib.below_iterAt HBW.out (k := w2.heap.size) (Nat.le_refl _) s (pos + (Utf8.decode s pos).2))
      obtain ⟨W1, hW1⟩ : ∃ W1, W1 = wr.iterAt w2.heap.size s (pos + (Utf8.decode s pos).2) := ⟨_, rfl⟩
      rw [← hW1] at hnx HIT2 HBW2
      have HWI := Aside0.mk (tagWithin_eq ((Utf8.decode s pos).1 : Int) (decode_valid s pos hp))
      have HA2 := Aside0.mk (show (withinI ((Utf8.decode s pos).1 : Int) && allFrom s fuel (pos + (Utf8.decode s pos).2)) = allFrom s s.size 0 by rw [← HA.out]; conv => rhs; unfold allFrom; rw [if_pos hp])
      clear hW1 HIT HBW HA
      go_wp2_with fail
      refine (tag_within.calls _ (withinI ((Utf8.decode s pos).1 : Int)) _ HWI.out).mono ?_
      rintro e w3 ⟨rfl, hb⟩
      have HIT3 := Aside0.mk (blk_below HIT2.out hb)
      have HBW3 := Aside0.mk (HBW2.out.trans (hb.mono HBW2.out.size))
      have HP3 := Aside0.mk (iterPos_at HIT3.out)
      clear hb
      cases hw : withinI ((Utf8.decode s pos).1 : Int) with
      | true =>
       have HWT := Aside0.mk hw
       clear hw
       go_wp2
       go_roundw
       case rel => exact ⟨_, fuel, HIT3, HBW3, ⟨by rw [← HA2.out, HWT.out, Bool.true_and]⟩, by omega⟩
       case measure => rw [HP3.out, HP0.out]; omega
      | false =>
       have HWT := Aside0.mk hw
       clear hw
       go_wp2
       go_ret
       exact ⟨by rw [HE.out, ← HA2.out, HWT.out]; simp, HB2.out.trans (HBW3.out.mono HB2.out.size)⟩
     ·
      have hnx : ∀ ty, (Instr.next (.pointer (some ⟨w2.heap.size, 0, none⟩)) true ty).run Tryd.prog wr = _ := fun ty => Lib.run_next_end_at wr w2.heap.size s pos ty HIT.out hp
      have HE2 := Aside0.mk (show allFrom s s.size 0 = true by rw [← HA.out]; exact allFrom_end s fuel pos hp)
      go_wp2
      go_ret
      exact ⟨by rw [HE.out, HN.out, HV.out, HE2.out, decide_eq_true h1, decide_eq_true h2]; rfl, HB2.out.trans (HBW.out.mono HB2.out.size)⟩
  ·
   have b1 : decide ((n : Int) < 1) = false := decide_eq_false (by omega)
   have b2 : decide ((24 : Int) < (n : Int)) = true := decide_eq_true (by omega)
   go_wp2
   go_ret
   exact ⟨by rw [HE.out, HN.out, decide_eq_false h2]; simp, HB.out⟩
 ·
  have b1 : decide ((n : Int) < 1) = true := decide_eq_true (by omega)
  go_wp2
  go_ret
  exact ⟨by rw [HE.out, HN.out, decide_eq_false h1]; simp, HB.out⟩
/-- tag.MayId, of texts that are not too long. -/
def tag_MayId.f (s : ByteArray) : Option Bool := if s.size ≤ 1000000 then some (mayIdI s) else none
theorem tag_MayId.calls (s : ByteArray) (b : Bool) (w : World) (hK : LaidT w) (h : tag_MayId.f s = some b) :
  Calls Tryd.prog 97 #[.string s] w fun e w' => e = .returned (.bool b) ∧ Below w.heap.size w w' := by
 unfold tag_MayId.f at h
 split at h
 ·
  rename_i hh
  obtain rfl := Option.some.inj h
  exact mayId.calls s hh w hK
 ·
  cases h
end Go.Proofs.YtlmmpncdemblbaaDoor.P
namespace Go.Proofs.YtlmmpncdemblbaaDoor.P
open Go.RowKit Go.Proofs.YtlmmpncdemblbaaDoorW.PrintWords Go.Proofs.YtlmmpncdemblbaaDoorW.PrintLast Go.Proofs.YtlmmpncdemblbaaDoorW.PrintMore
attribute [local go_sem] max2_int min2_int max_two min_two max_three min_three max_four min_four-- for this text's walks alone
set_option linter.unusedVariables false
set_option linter.unusedSimpArgs false
attribute [local go_sem high] eqAU128
/-! ### tag_MayLeaf: function 78 -/
def tag_MayLeaf.f (a0_0 : Bool) (a0_1 : ByteArray) (a0_2 : ByteArray) (a0_3 : Int) (a0_4 : Int) : Option (Bool) := if (a0_2.size : Int) > 32 then (some false) else (if a0_0 = true then (if a0_1.toList = ([] : List UInt8) then (some (a0_3 == 0 && (a0_4 == 0))) else (some false)) else ((tag_MayId.f a0_1).bind fun t141 => (some t141)))
set_option maxHeartbeats 8000000 in
set_option maxRecDepth 100000 in
theorem tag_MayLeaf.calls (a0_0 : Bool) (a0_1 : ByteArray) (a0_2 : ByteArray) (a0_3 : Int) (a0_4 : Int) (r : Bool) (w : World) (hK : LaidT w) (h : tag_MayLeaf.f a0_0 a0_1 a0_2 a0_3 a0_4 = some r) :
  Calls Tryd.prog 78 #[.agg #[.bool a0_0, .string a0_1, .string a0_2, .int .u64 a0_3, .int .u64 a0_4]] w fun e w' => e = .returned (.bool r) ∧ Below w.heap.size w w' := by
 have hu59 := Tryd.underlying59
 have hu24 := Tryd.underlying24
 have HB := Aside0.mk (Below.refl w.heap.size w)
 have HLD := Aside0.mk hK
 clear hK
 have H : (if (a0_2.size : Int) > 32 then (some false) else (if a0_0 = true then (if a0_1.toList = ([] : List UInt8) then (some (a0_3 == 0 && (a0_4 == 0))) else (some false)) else ((tag_MayId.f a0_1).bind fun t141 => (some t141)))) = some r := h
 clear h
 by_cases c2 : (a0_2.size : Int) > 32
 ·
  rw [if_pos c2] at H
  have c2b0 : decide (32 < (a0_2.size : Int)) = true := decide_eq_true c2
  have c2b1 : decide (32 < a0_2.size) = true := decide_eq_true (by omega)
  clear c2
  obtain rfl := Option.some.inj H
  go_enter Tryd.func78, Tryd.ntmps78
  go_wp2_with (first | ((with_reducible refine gate_dst (N := 1) rfl ?_); refine box_event ?hg (N := 1) ?hd (cs := #[.bool a0_0, .string a0_1, .string a0_2, .int .u64 a0_3, .int .u64 a0_4]) (t := 59) ?hr ?_; (case hd => rfl); (case hg => rfl); (case hr => first | (go_simp; done) | (go_simp; rfl)); intro gb140 hg w3 hbox hb; have n0_ := Aside0.mk (below_step (by repeat (first | (with_reducible first | exact HB.out | apply below_alloc | apply pw_below_drewN | apply below_drew1) | exact HB.out)) hb); have n1_ := Aside0.mk (hbox); have n2_ := Aside0.mk ((by rw [hg]; exact (below_size (by repeat (first | (with_reducible first | exact HB.out | apply below_alloc | apply pw_below_drewN | apply below_drew1) | exact HB.out))) : w.heap.size ≤ gb140)); have n3_ := Aside0.mk ((by rw [hg]; exact (below_size (by repeat (first | (with_reducible first | exact HB.out | apply below_alloc | apply pw_below_drewN | apply below_drew1) | exact HB.out))) : w.heap.size ≤ gb140)); clear HB; have HB := n0_; have BK140 := n1_; have GW140 := n2_; have GE140 := n3_; clear n0_ n1_ n2_ n3_; clear hb hbox hg; have hcz4_0 : w3.cell? ⟨gb140, 0, none⟩ = some (.bool a0_0) := (blk_cell BK140.out 0).trans rfl; have hcz4_1 : w3.cell? ⟨gb140, 1, none⟩ = some (.string a0_1) := (blk_cell BK140.out 1).trans rfl; have hcz4_2 : w3.cell? ⟨gb140, 2, none⟩ = some (.string a0_2) := (blk_cell BK140.out 2).trans rfl; have hcz4_3 : w3.cell? ⟨gb140, 3, none⟩ = some (.int .u64 a0_3) := (blk_cell BK140.out 3).trans rfl; have hcz4_4 : w3.cell? ⟨gb140, 4, none⟩ = some (.int .u64 a0_4) := (blk_cell BK140.out 4).trans rfl; have hfz4_0 := blk_frozen BK140.out 0; have hfz4_1 := blk_frozen BK140.out 1; have hfz4_2 := blk_frozen BK140.out 2; have hfz4_3 := blk_frozen BK140.out 3; have hfz4_4 := blk_frozen BK140.out 4))
  go_ret
  exact ⟨by first | rfl | (simp [errW_none, errW_some] <;> rfl) | (simp [*, errW_none, errW_some] <;> rfl), by repeat (first | (with_reducible first | exact HB.out | apply below_alloc | apply pw_below_drewN | apply below_drew1 | refine below_set ?_ GE140.out) | exact HB.out)⟩
 ·
  rw [if_neg c2] at H
  have c2b0 : decide (32 < (a0_2.size : Int)) = false := decide_eq_false c2
  have c2b1 : decide (32 < a0_2.size) = false := decide_eq_false (by omega)
  clear c2
  by_cases c5 : a0_0 = true
  ·
   subst c5
   have H1 : (if a0_1.toList = ([] : List UInt8) then (some (a0_3 == 0 && (a0_4 == 0))) else (some false)) = some r := by rw [if_pos rfl] at H; exact H
   clear H
   have H := H1
   clear H1
   by_cases c6 : a0_1.toList = ([] : List UInt8)
   ·
    rw [if_pos c6] at H
    have c6b0 : (a0_1.toList == ([] : List UInt8)) = true := beq_iff_eq.mpr c6
    have c6b1 : (a0_1.toList != ([] : List UInt8)) = false := bne_eq_false_iff_eq.mpr c6
    clear c6
    obtain rfl := Option.some.inj H
    go_enter Tryd.func78, Tryd.ntmps78
    go_wp2_with (first | ((with_reducible refine gate_dst (N := 1) rfl ?_); refine box_event ?hg (N := 1) ?hd (cs := #[.bool true, .string a0_1, .string a0_2, .int .u64 a0_3, .int .u64 a0_4]) (t := 59) ?hr ?_; (case hd => rfl); (case hg => rfl); (case hr => first | (go_simp; done) | (go_simp; rfl)); intro gb140 hg w7 hbox hb; have n0_ := Aside0.mk (below_step (by repeat (first | (with_reducible first | exact HB.out | apply below_alloc | apply pw_below_drewN | apply below_drew1) | exact HB.out)) hb); have n1_ := Aside0.mk (hbox); have n2_ := Aside0.mk ((by rw [hg]; exact (below_size (by repeat (first | (with_reducible first | exact HB.out | apply below_alloc | apply pw_below_drewN | apply below_drew1) | exact HB.out))) : w.heap.size ≤ gb140)); have n3_ := Aside0.mk ((by rw [hg]; exact (below_size (by repeat (first | (with_reducible first | exact HB.out | apply below_alloc | apply pw_below_drewN | apply below_drew1) | exact HB.out))) : w.heap.size ≤ gb140)); clear HB; have HB := n0_; have BK140 := n1_; have GW140 := n2_; have GE140 := n3_; clear n0_ n1_ n2_ n3_; clear hb hbox hg; have hcz8_0 : w7.cell? ⟨gb140, 0, none⟩ = some (.bool true) := (blk_cell BK140.out 0).trans rfl; have hcz8_1 : w7.cell? ⟨gb140, 1, none⟩ = some (.string a0_1) := (blk_cell BK140.out 1).trans rfl; have hcz8_2 : w7.cell? ⟨gb140, 2, none⟩ = some (.string a0_2) := (blk_cell BK140.out 2).trans rfl; have hcz8_3 : w7.cell? ⟨gb140, 3, none⟩ = some (.int .u64 a0_3) := (blk_cell BK140.out 3).trans rfl; have hcz8_4 : w7.cell? ⟨gb140, 4, none⟩ = some (.int .u64 a0_4) := (blk_cell BK140.out 4).trans rfl; have hfz8_0 := blk_frozen BK140.out 0; have hfz8_1 := blk_frozen BK140.out 1; have hfz8_2 := blk_frozen BK140.out 2; have hfz8_3 := blk_frozen BK140.out 3; have hfz8_4 := blk_frozen BK140.out 4))
    go_ret
    exact ⟨by first | rfl | (simp [errW_none, errW_some] <;> rfl) | (simp [*, errW_none, errW_some] <;> rfl), by repeat (first | (with_reducible first | exact HB.out | apply below_alloc | apply pw_below_drewN | apply below_drew1 | refine below_set ?_ GE140.out) | exact HB.out)⟩
   ·
    rw [if_neg c6] at H
    have c6b0 : (a0_1.toList == ([] : List UInt8)) = false := beq_eq_false_iff_ne.mpr c6
    have c6b1 : (a0_1.toList != ([] : List UInt8)) = true := bne_iff_ne.mpr c6
    obtain rfl := Option.some.inj H
    go_enter Tryd.func78, Tryd.ntmps78
    go_wp2_with (first | ((with_reducible refine gate_dst (N := 1) rfl ?_); refine box_event ?hg (N := 1) ?hd (cs := #[.bool true, .string a0_1, .string a0_2, .int .u64 a0_3, .int .u64 a0_4]) (t := 59) ?hr ?_; (case hd => rfl); (case hg => rfl); (case hr => first | (go_simp; done) | (go_simp; rfl)); intro gb140 hg w9 hbox hb; have n0_ := Aside0.mk (below_step (by repeat (first | (with_reducible first | exact HB.out | apply below_alloc | apply pw_below_drewN | apply below_drew1) | exact HB.out)) hb); have n1_ := Aside0.mk (hbox); have n2_ := Aside0.mk ((by rw [hg]; exact (below_size (by repeat (first | (with_reducible first | exact HB.out | apply below_alloc | apply pw_below_drewN | apply below_drew1) | exact HB.out))) : w.heap.size ≤ gb140)); have n3_ := Aside0.mk ((by rw [hg]; exact (below_size (by repeat (first | (with_reducible first | exact HB.out | apply below_alloc | apply pw_below_drewN | apply below_drew1) | exact HB.out))) : w.heap.size ≤ gb140)); clear HB; have HB := n0_; have BK140 := n1_; have GW140 := n2_; have GE140 := n3_; clear n0_ n1_ n2_ n3_; clear hb hbox hg; have hcz10_0 : w9.cell? ⟨gb140, 0, none⟩ = some (.bool true) := (blk_cell BK140.out 0).trans rfl; have hcz10_1 : w9.cell? ⟨gb140, 1, none⟩ = some (.string a0_1) := (blk_cell BK140.out 1).trans rfl; have hcz10_2 : w9.cell? ⟨gb140, 2, none⟩ = some (.string a0_2) := (blk_cell BK140.out 2).trans rfl; have hcz10_3 : w9.cell? ⟨gb140, 3, none⟩ = some (.int .u64 a0_3) := (blk_cell BK140.out 3).trans rfl; have hcz10_4 : w9.cell? ⟨gb140, 4, none⟩ = some (.int .u64 a0_4) := (blk_cell BK140.out 4).trans rfl; have hfz10_0 := blk_frozen BK140.out 0; have hfz10_1 := blk_frozen BK140.out 1; have hfz10_2 := blk_frozen BK140.out 2; have hfz10_3 := blk_frozen BK140.out 3; have hfz10_4 := blk_frozen BK140.out 4))
    go_ret
    exact ⟨by first | rfl | (simp [errW_none, errW_some] <;> rfl) | (simp [*, errW_none, errW_some] <;> rfl), by repeat (first | (with_reducible first | exact HB.out | apply below_alloc | apply pw_below_drewN | apply below_drew1 | refine below_set ?_ GE140.out) | exact HB.out)⟩
  ·
   replace c5 := Bool.eq_false_iff.mpr c5
   subst c5
   have H1 : ((tag_MayId.f a0_1).bind fun t141 => (some t141)) = some r := by rw [if_neg (show ¬ (false = true) by decide)] at H; exact H
   clear H
   have H := H1
   clear H1
   replace H := Option.bind_eq_some_iff.mp H
   obtain ⟨t141, A110, H⟩ := H
   replace H : (some t141) = some r := H
   have A11 := Aside0.mk A110
   clear A110
   obtain rfl := Option.some.inj H
   go_enter Tryd.func78, Tryd.ntmps78
   go_wp2_with (first | ((with_reducible refine gate_dst (N := 1) rfl ?_); refine box_event ?hg (N := 1) ?hd (cs := #[.bool false, .string a0_1, .string a0_2, .int .u64 a0_3, .int .u64 a0_4]) (t := 59) ?hr ?_; (case hd => rfl); (case hg => rfl); (case hr => first | (go_simp; done) | (go_simp; rfl)); intro gb140 hg w12 hbox hb; have n0_ := Aside0.mk (below_step (by repeat (first | (with_reducible first | exact HB.out | apply below_alloc | apply pw_below_drewN | apply below_drew1) | exact HB.out)) hb); have n1_ := Aside0.mk (hbox); have n2_ := Aside0.mk ((by rw [hg]; exact (below_size (by repeat (first | (with_reducible first | exact HB.out | apply below_alloc | apply pw_below_drewN | apply below_drew1) | exact HB.out))) : w.heap.size ≤ gb140)); have n3_ := Aside0.mk ((by rw [hg]; exact (below_size (by repeat (first | (with_reducible first | exact HB.out | apply below_alloc | apply pw_below_drewN | apply below_drew1) | exact HB.out))) : w.heap.size ≤ gb140)); clear HB; have HB := n0_; have BK140 := n1_; have GW140 := n2_; have GE140 := n3_; clear n0_ n1_ n2_ n3_; clear hb hbox hg; have hcz13_0 : w12.cell? ⟨gb140, 0, none⟩ = some (.bool false) := (blk_cell BK140.out 0).trans rfl; have hcz13_1 : w12.cell? ⟨gb140, 1, none⟩ = some (.string a0_1) := (blk_cell BK140.out 1).trans rfl; have hcz13_2 : w12.cell? ⟨gb140, 2, none⟩ = some (.string a0_2) := (blk_cell BK140.out 2).trans rfl; have hcz13_3 : w12.cell? ⟨gb140, 3, none⟩ = some (.int .u64 a0_3) := (blk_cell BK140.out 3).trans rfl; have hcz13_4 : w12.cell? ⟨gb140, 4, none⟩ = some (.int .u64 a0_4) := (blk_cell BK140.out 4).trans rfl; have hfz13_0 := blk_frozen BK140.out 0; have hfz13_1 := blk_frozen BK140.out 1; have hfz13_2 := blk_frozen BK140.out 2; have hfz13_3 := blk_frozen BK140.out 3; have hfz13_4 := blk_frozen BK140.out 4) | ((with_reducible refine gate_callee (f := 97) rfl ?_); refine goesL_ (some 20) rfl rfl Tryd.func97 (by kernel_rfl) rfl #[.string a0_1] rfl (by (try simp only [List.map_toArray, List.map_cons, List.map_nil]); first | done | rfl | (simp only [List.length_drop, List.length_take]; rfl)) ?_; (with_reducible refine (tag_MayId.calls a0_1 t141 _ ?side1 A11.out).mono ?_); (case side1 => exact LaidT.below HLD.out (by repeat (first | (with_reducible first | exact HB.out | apply below_alloc | apply pw_below_drewN | apply below_drew1 | refine below_set ?_ GE140.out) | exact HB.out))); rintro e w14 ⟨rfl, hb⟩; refine ⟨_, rfl, ?_⟩; have n0_ := Aside0.mk (blk_below (g := gb140) (o := .cells #[.bool false, .string a0_1, .string a0_2, .int .u64 a0_3, .int .u64 a0_4] 59 (0, 0)) (by (with_reducible repeat (first | refine blk_drewN ?_ _ | refine blk_drew ?_ | refine blk_alloc ?_ _)); exact BK140.out) hb); have n1_ := Aside0.mk (below_step (by repeat (first | (with_reducible first | exact HB.out | apply below_alloc | apply pw_below_drewN | apply below_drew1 | refine below_set ?_ GE140.out) | exact HB.out)) hb); clear BK140; clear HB; have BK140 := n0_; have HB := n1_; clear n0_ n1_; (try clear hb); (try clear hb2); (try clear hk); (try clear hi)))
   go_ret
   exact ⟨by first | rfl | (simp [errW_none, errW_some] <;> rfl) | (simp [*, errW_none, errW_some] <;> rfl), by repeat (first | (with_reducible first | exact HB.out | apply below_alloc | apply pw_below_drewN | apply below_drew1 | refine below_set ?_ GE140.out) | exact HB.out)⟩
/-! ### verify_asked_leaf: function 57 -/
def verify_asked_leaf.f (a0_0 : ByteArray) (a0_1 : Int) (a0_2 : Int) (a0_3 : Int) (a0_4 : Bool) (a0_5 : ByteArray) (a0_6 : ByteArray) (a0_7 : Int) (a0_8 : Int) (a0_9 : Int) (l0_10 : List (SNode)) : Option (Int) := (tag_MayLeaf.f a0_4 a0_5 a0_6 a0_7 a0_8).bind fun t143 => (if t143 = true then (some 0) else (some 130))
set_option maxHeartbeats 8000000 in
set_option maxRecDepth 100000 in
theorem verify_asked_leaf.calls (a0_0 : ByteArray) (a0_1 : Int) (a0_2 : Int) (a0_3 : Int) (a0_4 : Bool) (a0_5 : ByteArray) (a0_6 : ByteArray) (a0_7 : Int) (a0_8 : Int) (a0_9 : Int) (A0_10 : Option Addr) (c0_10 : Nat) (l0_10 : List (SNode)) (r : Int) (w : World) (hK : LaidT w) (hr0_10 : Kd.C kNode w A0_10 l0_10.length l0_10) (hc0_10 : l0_10.length ≤ c0_10) (h : verify_asked_leaf.f a0_0 a0_1 a0_2 a0_3 a0_4 a0_5 a0_6 a0_7 a0_8 a0_9 l0_10 = some r) :
  Calls Tryd.prog 57 #[.agg #[.string a0_0, .int .u64 a0_1, .int .u64 a0_2, .int .i64 a0_3, .bool a0_4, .string a0_5, .string a0_6, .int .u64 a0_7, .int .u64 a0_8, .int .u64 a0_9, .slice A0_10 l0_10.length c0_10]] w fun e w' => e = .returned (.int .i64 r) ∧ Below w.heap.size w w' := by
 have hu109 := Tryd.underlying109
 have hu59 := Tryd.underlying59
 have HR0_10 := Aside0.mk hr0_10
 have HC0_10 := Aside0.mk hc0_10
 clear hr0_10 hc0_10
 have HB := Aside0.mk (Below.refl w.heap.size w)
 have HLD := Aside0.mk hK
 clear hK
 have H : ((tag_MayLeaf.f a0_4 a0_5 a0_6 a0_7 a0_8).bind fun t143 => (if t143 = true then (some 0) else (some 130))) = some r := h
 clear h
 replace H := Option.bind_eq_some_iff.mp H
 obtain ⟨t143, A20, H⟩ := H
 replace H : (if t143 = true then (some 0) else (some 130)) = some r := H
 have A2 := Aside0.mk A20
 clear A20
 by_cases c3 : t143 = true
 ·
  subst c3
  have H1 : (some 0) = some r := by rw [if_pos rfl] at H; exact H
  clear H
  have H := H1
  clear H1
  obtain rfl := Option.some.inj H
  go_enter Tryd.func57, Tryd.ntmps57
  go_wp2_with (first | ((with_reducible refine gate_dst (N := 1) rfl ?_); refine box_event ?hg (N := 1) ?hd (cs := #[.string a0_0, .int .u64 a0_1, .int .u64 a0_2, .int .i64 a0_3, .bool a0_4, .string a0_5, .string a0_6, .int .u64 a0_7, .int .u64 a0_8, .int .u64 a0_9, .slice A0_10 l0_10.length c0_10]) (t := 109) ?hr ?_; (case hd => rfl); (case hg => rfl); (case hr => first | (go_simp; done) | (go_simp; rfl)); intro gb142 hg w4 hbox hb; have n0_ := Aside0.mk (below_step (by repeat (first | (with_reducible first | exact HB.out | apply below_alloc | apply pw_below_drewN | apply below_drew1) | exact HB.out)) hb); have n1_ := Aside0.mk (hbox); have n2_ := Aside0.mk ((by rw [hg]; exact (below_size (by repeat (first | (with_reducible first | exact HB.out | apply below_alloc | apply pw_below_drewN | apply below_drew1) | exact HB.out))) : w.heap.size ≤ gb142)); have n3_ := Aside0.mk ((by rw [hg]; exact (below_size (by repeat (first | (with_reducible first | exact HB.out | apply below_alloc | apply pw_below_drewN | apply below_drew1) | exact HB.out))) : w.heap.size ≤ gb142)); clear HB; have HB := n0_; have BK142 := n1_; have GW142 := n2_; have GE142 := n3_; clear n0_ n1_ n2_ n3_; clear hb hbox hg; have hcz5_0 : w4.cell? ⟨gb142, 0, none⟩ = some (.string a0_0) := (blk_cell BK142.out 0).trans rfl; have hcz5_1 : w4.cell? ⟨gb142, 1, none⟩ = some (.int .u64 a0_1) := (blk_cell BK142.out 1).trans rfl; have hcz5_2 : w4.cell? ⟨gb142, 2, none⟩ = some (.int .u64 a0_2) := (blk_cell BK142.out 2).trans rfl; have hcz5_3 : w4.cell? ⟨gb142, 3, none⟩ = some (.int .i64 a0_3) := (blk_cell BK142.out 3).trans rfl; have hcz5_4 : w4.cell? ⟨gb142, 4, none⟩ = some (.bool a0_4) := (blk_cell BK142.out 4).trans rfl; have hcz5_5 : w4.cell? ⟨gb142, 5, none⟩ = some (.string a0_5) := (blk_cell BK142.out 5).trans rfl; have hcz5_6 : w4.cell? ⟨gb142, 6, none⟩ = some (.string a0_6) := (blk_cell BK142.out 6).trans rfl; have hcz5_7 : w4.cell? ⟨gb142, 7, none⟩ = some (.int .u64 a0_7) := (blk_cell BK142.out 7).trans rfl; have hcz5_8 : w4.cell? ⟨gb142, 8, none⟩ = some (.int .u64 a0_8) := (blk_cell BK142.out 8).trans rfl; have hcz5_9 : w4.cell? ⟨gb142, 9, none⟩ = some (.int .u64 a0_9) := (blk_cell BK142.out 9).trans rfl; have hcz5_10 : w4.cell? ⟨gb142, 10, none⟩ = some (.slice A0_10 l0_10.length c0_10) := (blk_cell BK142.out 10).trans rfl; have hfz5_0 := blk_frozen BK142.out 0; have hfz5_1 := blk_frozen BK142.out 1; have hfz5_2 := blk_frozen BK142.out 2; have hfz5_3 := blk_frozen BK142.out 3; have hfz5_4 := blk_frozen BK142.out 4; have hfz5_5 := blk_frozen BK142.out 5; have hfz5_6 := blk_frozen BK142.out 6; have hfz5_7 := blk_frozen BK142.out 7; have hfz5_8 := blk_frozen BK142.out 8; have hfz5_9 := blk_frozen BK142.out 9; have hfz5_10 := blk_frozen BK142.out 10) | ((with_reducible refine gate_callee (f := 78) rfl ?_); refine goesL_ (some 6) rfl rfl Tryd.func78 (by kernel_rfl) rfl #[.agg #[.bool a0_4, .string a0_5, .string a0_6, .int .u64 a0_7, .int .u64 a0_8]] rfl (by (try simp only [List.map_toArray, List.map_cons, List.map_nil]); first | done | rfl | (simp only [List.length_drop, List.length_take]; rfl)) ?_; (with_reducible refine (tag_MayLeaf.calls a0_4 a0_5 a0_6 a0_7 a0_8 true _ ?side1 A2.out).mono ?_); (case side1 => exact LaidT.below HLD.out (by repeat (first | (with_reducible first | exact HB.out | apply below_alloc | apply pw_below_drewN | apply below_drew1 | refine below_set ?_ GE142.out) | exact HB.out))); rintro e w6 ⟨rfl, hb⟩; refine ⟨_, rfl, ?_⟩; have n0_ := Aside0.mk (blk_below (g := gb142) (o := .cells #[.string a0_0, .int .u64 a0_1, .int .u64 a0_2, .int .i64 a0_3, .bool a0_4, .string a0_5, .string a0_6, .int .u64 a0_7, .int .u64 a0_8, .int .u64 a0_9, .slice A0_10 l0_10.length c0_10] 109 (0, 0)) (by (with_reducible repeat (first | refine blk_drewN ?_ _ | refine blk_drew ?_ | refine blk_alloc ?_ _)); exact BK142.out) hb); have n1_ := Aside0.mk (below_step (by repeat (first | (with_reducible first | exact HB.out | apply below_alloc | apply pw_below_drewN | apply below_drew1 | refine below_set ?_ GE142.out) | exact HB.out)) hb); clear BK142; clear HB; have BK142 := n0_; have HB := n1_; clear n0_ n1_; (try clear hb); (try clear hb2); (try clear hk); (try clear hi)))
  go_ret
  exact ⟨by first | rfl | (simp [errW_none, errW_some] <;> rfl) | (simp [*, errW_none, errW_some] <;> rfl), by repeat (first | (with_reducible first | exact HB.out | apply below_alloc | apply pw_below_drewN | apply below_drew1 | refine below_set ?_ GE142.out) | exact HB.out)⟩
 ·
  replace c3 := Bool.eq_false_iff.mpr c3
  subst c3
  have H1 : (some 130) = some r := by rw [if_neg (show ¬ (false = true) by decide)] at H; exact H
  clear H
  have H := H1
  clear H1
  obtain rfl := Option.some.inj H
  go_enter Tryd.func57, Tryd.ntmps57
  go_wp2_with (first | ((with_reducible refine gate_dst (N := 1) rfl ?_); refine box_event ?hg (N := 1) ?hd (cs := #[.string a0_0, .int .u64 a0_1, .int .u64 a0_2, .int .i64 a0_3, .bool a0_4, .string a0_5, .string a0_6, .int .u64 a0_7, .int .u64 a0_8, .int .u64 a0_9, .slice A0_10 l0_10.length c0_10]) (t := 109) ?hr ?_; (case hd => rfl); (case hg => rfl); (case hr => first | (go_simp; done) | (go_simp; rfl)); intro gb142 hg w7 hbox hb; have n0_ := Aside0.mk (below_step (by repeat (first | (with_reducible first | exact HB.out | apply below_alloc | apply pw_below_drewN | apply below_drew1) | exact HB.out)) hb); have n1_ := Aside0.mk (hbox); have n2_ := Aside0.mk ((by rw [hg]; exact (below_size (by repeat (first | (with_reducible first | exact HB.out | apply below_alloc | apply pw_below_drewN | apply below_drew1) | exact HB.out))) : w.heap.size ≤ gb142)); have n3_ := Aside0.mk ((by rw [hg]; exact (below_size (by repeat (first | (with_reducible first | exact HB.out | apply below_alloc | apply pw_below_drewN | apply below_drew1) | exact HB.out))) : w.heap.size ≤ gb142)); clear HB; have HB := n0_; have BK142 := n1_; have GW142 := n2_; have GE142 := n3_; clear n0_ n1_ n2_ n3_; clear hb hbox hg; have hcz8_0 : w7.cell? ⟨gb142, 0, none⟩ = some (.string a0_0) := (blk_cell BK142.out 0).trans rfl; have hcz8_1 : w7.cell? ⟨gb142, 1, none⟩ = some (.int .u64 a0_1) := (blk_cell BK142.out 1).trans rfl; have hcz8_2 : w7.cell? ⟨gb142, 2, none⟩ = some (.int .u64 a0_2) := (blk_cell BK142.out 2).trans rfl; have hcz8_3 : w7.cell? ⟨gb142, 3, none⟩ = some (.int .i64 a0_3) := (blk_cell BK142.out 3).trans rfl; have hcz8_4 : w7.cell? ⟨gb142, 4, none⟩ = some (.bool a0_4) := (blk_cell BK142.out 4).trans rfl; have hcz8_5 : w7.cell? ⟨gb142, 5, none⟩ = some (.string a0_5) := (blk_cell BK142.out 5).trans rfl; have hcz8_6 : w7.cell? ⟨gb142, 6, none⟩ = some (.string a0_6) := (blk_cell BK142.out 6).trans rfl; have hcz8_7 : w7.cell? ⟨gb142, 7, none⟩ = some (.int .u64 a0_7) := (blk_cell BK142.out 7).trans rfl; have hcz8_8 : w7.cell? ⟨gb142, 8, none⟩ = some (.int .u64 a0_8) := (blk_cell BK142.out 8).trans rfl; have hcz8_9 : w7.cell? ⟨gb142, 9, none⟩ = some (.int .u64 a0_9) := (blk_cell BK142.out 9).trans rfl; have hcz8_10 : w7.cell? ⟨gb142, 10, none⟩ = some (.slice A0_10 l0_10.length c0_10) := (blk_cell BK142.out 10).trans rfl; have hfz8_0 := blk_frozen BK142.out 0; have hfz8_1 := blk_frozen BK142.out 1; have hfz8_2 := blk_frozen BK142.out 2; have hfz8_3 := blk_frozen BK142.out 3; have hfz8_4 := blk_frozen BK142.out 4; have hfz8_5 := blk_frozen BK142.out 5; have hfz8_6 := blk_frozen BK142.out 6; have hfz8_7 := blk_frozen BK142.out 7; have hfz8_8 := blk_frozen BK142.out 8; have hfz8_9 := blk_frozen BK142.out 9; have hfz8_10 := blk_frozen BK142.out 10) | ((with_reducible refine gate_callee (f := 78) rfl ?_); refine goesL_ (some 6) rfl rfl Tryd.func78 (by kernel_rfl) rfl #[.agg #[.bool a0_4, .string a0_5, .string a0_6, .int .u64 a0_7, .int .u64 a0_8]] rfl (by (try simp only [List.map_toArray, List.map_cons, List.map_nil]); first | done | rfl | (simp only [List.length_drop, List.length_take]; rfl)) ?_; (with_reducible refine (tag_MayLeaf.calls a0_4 a0_5 a0_6 a0_7 a0_8 false _ ?side1 A2.out).mono ?_); (case side1 => exact LaidT.below HLD.out (by repeat (first | (with_reducible first | exact HB.out | apply below_alloc | apply pw_below_drewN | apply below_drew1 | refine below_set ?_ GE142.out) | exact HB.out))); rintro e w9 ⟨rfl, hb⟩; refine ⟨_, rfl, ?_⟩; have n0_ := Aside0.mk (blk_below (g := gb142) (o := .cells #[.string a0_0, .int .u64 a0_1, .int .u64 a0_2, .int .i64 a0_3, .bool a0_4, .string a0_5, .string a0_6, .int .u64 a0_7, .int .u64 a0_8, .int .u64 a0_9, .slice A0_10 l0_10.length c0_10] 109 (0, 0)) (by (with_reducible repeat (first | refine blk_drewN ?_ _ | refine blk_drew ?_ | refine blk_alloc ?_ _)); exact BK142.out) hb); have n1_ := Aside0.mk (below_step (by repeat (first | (with_reducible first | exact HB.out | apply below_alloc | apply pw_below_drewN | apply below_drew1 | refine below_set ?_ GE142.out) | exact HB.out)) hb); clear BK142; clear HB; have BK142 := n0_; have HB := n1_; clear n0_ n1_; (try clear hb); (try clear hb2); (try clear hk); (try clear hi)))
  go_ret
  exact ⟨by first | rfl | (simp [errW_none, errW_some] <;> rfl) | (simp [*, errW_none, errW_some] <;> rfl), by repeat (first | (with_reducible first | exact HB.out | apply below_alloc | apply pw_below_drewN | apply below_drew1 | refine below_set ?_ GE142.out) | exact HB.out)⟩
end Go.Proofs.YtlmmpncdemblbaaDoor.P
namespace Go.Proofs.YtlmmpncdemblbaaDoor.P
open Go.RowKit Go.Proofs.YtlmmpncdemblbaaDoorW.PrintWords Go.Proofs.YtlmmpncdemblbaaDoorW.PrintLast Go.Proofs.YtlmmpncdemblbaaDoorW.PrintMore
attribute [local go_sem] max2_int min2_int max_two min_two max_three min_three max_four min_four-- for this text's walks alone
set_option linter.unusedVariables false
set_option linter.unusedSimpArgs false
/-! ### tag_sized: function 102 -/
def tag_sized.f (a0 : ByteArray) : Option (ByteArray) := (some (([((a0.size : Int)) % 256] : List Int) : List Int)).bind fun y101 => (if (strOfNums y101).size + a0.size ≤ 9223372036854775807 then (some ((strOfNums y101) ++ a0)) else (none))
set_option maxHeartbeats 8000000 in
set_option maxRecDepth 100000 in
theorem tag_sized.calls (a0 : ByteArray) (r : ByteArray) (w : World) (h : tag_sized.f a0 = some r) :
  Calls Tryd.prog 102 #[.string a0] w fun e w' => e = .returned (.string r) ∧ Below w.heap.size w w' := by
 have HB := Aside0.mk (Below.refl w.heap.size w)
 have H : ((some (([((a0.size : Int)) % 256] : List Int) : List Int)).bind fun y101 => (if (strOfNums y101).size + a0.size ≤ 9223372036854775807 then (some ((strOfNums y101) ++ a0)) else (none))) = some r := h
 clear h
 obtain ⟨y101, hy101⟩ : ∃ y_ : List Int, y_ = (([((a0.size : Int)) % 256] : List Int)) := ⟨_, rfl⟩
 replace H : (if (strOfNums y101).size + a0.size ≤ 9223372036854775807 then (some ((strOfNums y101) ++ a0)) else (none)) = some r := by first | (rw [hy101]; with_reducible exact H) | (have H2_ := (Option.bind_some _ _).symm.trans H; rw [hy101]; with_reducible exact H2_) | (have H2_ := (Option.bind_some _ _).symm.trans H; with_reducible exact H2_) | with_reducible exact H | (rw [hy101]; exact H) | exact H
 have Ny101 := Aside0.mk hy101
 clear hy101
 by_cases c2 : (strOfNums y101).size + a0.size ≤ 9223372036854775807
 ·
  rw [if_pos c2] at H
  have c2b0 := eq_true c2
  have c2b1 : decide ((strOfNums y101).size + a0.size ≤ 9223372036854775807) = true := decide_eq_true c2
  try have c2b2 : (9223372036854775807 < (strOfNums y101).size + a0.size) = False := eq_false (Nat.not_lt.2 c2)
  try (have c2b9 := c2; simp only [ByteArray.size_append, ba_size, List.length_cons, List.length_nil, Nat.zero_add, Nat.reduceAdd] at c2b9; have c2b8 := eq_false (Nat.not_lt.2 c2b9))
  obtain rfl := Option.some.inj H
  go_enter Tryd.func102, Tryd.ntmps102
  go_wp2_with (first | ((with_reducible refine gate_dst (N := 6) rfl ?_); refine Kd.R_lit (Kd.int .u8) _ 5 ?hg (N := 6) ?hd (xs := ([((a0.size : Int)) % 256] : List Int)) (inner := [.int .u8 (((a0.size : Int)) % 256)]) (ok := fun _ => True) (okp := fun _ => True) ?hr ?hp (fun _ hk => hk) trivial (Below.refl _ _) (Nat.le_refl _) (by simp) ?_; (case hd => rfl); (case hg => rfl); (case hr => first | (go_simp; done) | (go_simp; rfl)); (case hp => exact (Reps.one (show Kd.M (Kd.int .u8) _ _ _ (((a0.size : Int)) % 256) [.int .u8 (((a0.size : Int)) % 256)] from rfl) (Reps.none _ _))); intro v102 w3 ho4 hb hg_ hnew_; clear hg_ hnew_; (first | rw [← Ny101.out] at ho4 | (simp only [Int.reduceToNat] at ho4; rw [← Ny101.out] at ho4)); have n0_ := Aside0.mk (Kd.R_lower ho4 (below_size (by repeat (first | (with_reducible first | exact HB.out | apply below_alloc | apply pw_below_drewN | apply below_drew1) | exact HB.out)))); have n1_ := Aside0.mk (below_step (by repeat (first | (with_reducible first | exact HB.out | apply below_alloc | apply pw_below_drewN | apply below_drew1) | exact HB.out)) hb); clear HB; have HO103 := n0_; have HB := n1_; clear n0_ n1_; clear hb ho4; have hcv5 := own_string (P := Tryd.prog) Tryd.underlying56 Tryd.underlying5 Tryd.underlying9 (Kd.own_of_R HO103.out)))
  go_ret
  exact ⟨by first | rfl | (simp [errW_none, errW_some] <;> rfl) | (simp [*, errW_none, errW_some] <;> rfl), by repeat (first | (with_reducible first | exact HB.out | apply below_alloc | apply pw_below_drewN | apply below_drew1) | exact HB.out)⟩
 ·
  rw [if_neg c2] at H
  exact absurd H (by simp)
end Go.Proofs.YtlmmpncdemblbaaDoor.P
namespace Go.Proofs.YtlmmpncdemblbaaDoor.P
open Go.RowKit Go.Proofs.YtlmmpncdemblbaaDoorW.PrintWords Go.Proofs.YtlmmpncdemblbaaDoorW.PrintLast Go.Proofs.YtlmmpncdemblbaaDoorW.PrintMore
set_option linter.unusedVariables false
set_option linter.unusedSimpArgs false
set_option linter.unnecessarySimpa false
/-! Layer 1: the sum, the bytes. -/
theorem add64_runs (x y c : Int) (hx : 0 ≤ x) (hy : 0 ≤ y) (hc0 : 0 ≤ c) (hc : c ≤ 1) (w : World) : (callFunc 73 #[.int .u64 x, .int .u64 y, .int .u64 c]).run Tryd.prog w =
  .ok (.value (.tuple #[.int .u64 ((x + y + c) % 18446744073709551616), .int .u64 ((x + y + c) / 18446744073709551616)])) w := by
 rw [run_callFunc_extern Tryd.func73 (by kernel_rfl) (by kernel_rfl) (by kernel_rfl) (e := add64Entry) (by kernel_rfl), run_add64 x y c hx hy hc0 hc]
 rfl
/-- The sum of two numbers, each of two halves; 10: there is no room. -/
def u128_Add.f (a0_0 a0_1 a1_0 a1_1 : Int) : Option (Int × Int × Int) :=
 if ((0 ≤ a0_0 ∧ a0_0 < 18446744073709551616) ∧ (0 ≤ a0_1 ∧ a0_1 < 18446744073709551616)) ∧ ((0 ≤ a1_0 ∧ a1_0 < 18446744073709551616) ∧ (0 ≤ a1_1 ∧ a1_1 < 18446744073709551616)) then
  (if a0_0 + a1_0 + (a0_1 + a1_1) / 18446744073709551616 < 18446744073709551616 then some (a0_0 + a1_0 + (a0_1 + a1_1) / 18446744073709551616, (a0_1 + a1_1) % 18446744073709551616, 0) else some (0, 0, 10))
 else none
set_option maxRecDepth 100000 in
theorem u128_Add.calls (a0_0 : Int) (a0_1 : Int) (a1_0 : Int) (a1_1 : Int) (r1 : Int) (r2 : Int) (r3 : Int) (w : World) (h : u128_Add.f a0_0 a0_1 a1_0 a1_1 = some (r1, r2, r3)) :
  Calls Tryd.prog 42 #[.agg #[.int .u64 a0_0, .int .u64 a0_1], .agg #[.int .u64 a1_0, .int .u64 a1_1]] w fun e w' => e = .returned (.tuple #[.agg #[.int .u64 r1, .int .u64 r2], .int .i64 r3]) ∧ Below w.heap.size w w' := by
 have hu := Tryd.underlying24
 unfold u128_Add.f at h
 split at h
 ·
  rename_i hb
  obtain ⟨⟨⟨h00, h01⟩, h02, h03⟩, ⟨h10, h11⟩, h12, h13⟩ := hb
  have ha := add64_runs a0_1 a1_1 0 h02 h12 (by omega) (by omega)
  have hc := add64_runs a0_0 a1_0 ((a0_1 + a1_1) / 18446744073709551616) h00 h10 (by omega) (by omega)
  rw [Int.add_zero] at ha
  split at h
  ·
   rename_i hs
   simp only [Option.some.injEq, Prod.mk.injEq] at h
   obtain ⟨rfl, rfl, rfl⟩ := h
   have e1 : (a0_0 + a1_0 + (a0_1 + a1_1) / 18446744073709551616) / 18446744073709551616 = 0 := by omega
   have e2 : (a0_0 + a1_0 + (a0_1 + a1_1) / 18446744073709551616) % 18446744073709551616 = a0_0 + a1_0 + (a0_1 + a1_1) / 18446744073709551616 := by omega
   have E2 := Aside0.mk e2
   have hc2 : ∀ w : World, (callFunc 73 #[.int .u64 a0_0, .int .u64 a1_0, .int .u64 ((a0_1 + a1_1) / 18446744073709551616)]).run Tryd.prog w = .ok (.value (.tuple #[.int .u64 (a0_0 + a1_0 + (a0_1 + a1_1) / 18446744073709551616), .int .u64 0])) w := by
    intro w; rw [hc w, e1, e2]
   clear hc e1 e2 h00 h01 h02 h03 h10 h11 h12 h13 hs
   go_enter Tryd.func42, Tryd.ntmps42
   go_wp2_with fail
   refine bodyPost_ret (v := .tuple #[.agg #[.int .u64 (a0_0 + a1_0 + (a0_1 + a1_1) / 18446744073709551616), .int .u64 ((a0_1 + a1_1) % 18446744073709551616)], .int .i64 0]) ?_ rfl ⟨rfl, ?_⟩
   ·
    simp [results, Tryd.results42, go_sem, hu]
   ·
    repeat (with_reducible first | exact Below.refl _ _ | apply below_alloc | refine below_set ?_ (Nat.le_refl _))
  ·
   rename_i hs
   simp only [Option.some.injEq, Prod.mk.injEq] at h
   obtain ⟨rfl, rfl, rfl⟩ := h
   have e1 : (a0_0 + a1_0 + (a0_1 + a1_1) / 18446744073709551616) / 18446744073709551616 = 1 := by omega
   have hc2 : ∀ w : World, (callFunc 73 #[.int .u64 a0_0, .int .u64 a1_0, .int .u64 ((a0_1 + a1_1) / 18446744073709551616)]).run Tryd.prog w = .ok (.value (.tuple #[.int .u64 ((a0_0 + a1_0 + (a0_1 + a1_1) / 18446744073709551616) % 18446744073709551616), .int .u64 1])) w := by
    intro w; rw [hc w, e1]
   clear hc e1 h00 h01 h02 h03 h10 h11 h12 h13 hs
   go_enter Tryd.func42, Tryd.ntmps42
   go_wp2_with fail
   refine bodyPost_ret (v := .tuple #[.agg #[.int .u64 0, .int .u64 0], .int .i64 10]) ?_ rfl ⟨rfl, ?_⟩
   ·
    simp [results, Tryd.results42, go_sem, hu]
   ·
    repeat (with_reducible first | exact Below.refl _ _ | apply below_alloc | refine below_set ?_ (Nat.le_refl _))
 ·
  cases h
/-- A byte of a half, the greatest first. -/
def halfB (x : Int) (i : Nat) : Int := x / 2 ^ (56 - 8 * i) % 256
def u128B (hi lo : Int) : ByteArray := strOfNums ((List.range 8).map (halfB hi) ++ (List.range 8).map (halfB lo))
def rowB (hi lo : Int) (k : Nat) : Array Value :=
 #[.int .u8 (if 0 < k then halfB hi 0 else 0), .int .u8 (if 1 < k then halfB hi 1 else 0), .int .u8 (if 2 < k then halfB hi 2 else 0), .int .u8 (if 3 < k then halfB hi 3 else 0), .int .u8 (if 4 < k then halfB hi 4 else 0), .int .u8 (if 5 < k then halfB hi 5 else 0), .int .u8 (if 6 < k then halfB hi 6 else 0), .int .u8 (if 7 < k then halfB hi 7 else 0),
  .int .u8 (if 0 < k then halfB lo 0 else 0), .int .u8 (if 1 < k then halfB lo 1 else 0), .int .u8 (if 2 < k then halfB lo 2 else 0), .int .u8 (if 3 < k then halfB lo 3 else 0), .int .u8 (if 4 < k then halfB lo 4 else 0), .int .u8 (if 5 < k then halfB lo 5 else 0), .int .u8 (if 6 < k then halfB lo 6 else 0), .int .u8 (if 7 < k then halfB lo 7 else 0)]
theorem rowB_step (hi lo : Int) (k : Nat) (h : k < 8) : ((rowB hi lo k).setIfInBounds k (.int .u8 (halfB hi k))).setIfInBounds (k + 8) (.int .u8 (halfB lo k)) = rowB hi lo (k + 1) := by
 have : k = 0 ∨ k = 1 ∨ k = 2 ∨ k = 3 ∨ k = 4 ∨ k = 5 ∨ k = 6 ∨ k = 7 := by omega
 rcases this with h | h | h | h | h | h | h | h <;> subst h <;> rfl
def u128_Bytes.f (a0_0 a0_1 : Int) : Option ByteArray := some (u128B a0_0 a0_1)
set_option maxRecDepth 100000 in
set_option maxHeartbeats 2000000 in
theorem u128Bytes.calls (hi lo : Int) (w : World) :
  Calls Tryd.prog 76 #[.agg #[.int .u64 hi, .int .u64 lo]] w fun e w' => e = .returned (.string (u128B hi lo)) ∧ Below w.heap.size w w' := by
 have hu := Tryd.underlying24
 have hu2 := Tryd.underlying145
 go_enter Tryd.func76, Tryd.ntmps76
 go_wp2_with fail
 go_loopw [5] (fun v wr => ∃ k : Nat, v = .int .i64 k ∧ k ≤ 8 ∧ Aside0 (wr.heap[w.heap.size + 1]? = some (.cells (rowB hi lo k) 145 (0, 0))) ∧ Aside0 (wr.heap[w.heap.size]? = some (.cells #[.int .u64 hi, .int .u64 lo] 24 (0, 0))) ∧ Aside0 (Below w.heap.size w wr)) (fun v _ => 8 - (intOf v).toNat)
 case atStart =>
  refine ⟨0, rfl, by omega, ⟨?_⟩, ⟨?_⟩, ⟨?_⟩⟩
  ·
   have := blk_new (w.alloc (.cells #[.int .u64 hi, .int .u64 lo] 24)) (.cells (rowB hi lo 0) 145)
   rw [show (w.alloc (.cells #[.int .u64 hi, .int .u64 lo] 24)).heap.size = w.heap.size + 1 by simp] at this
   exact this
  ·
   exact blk_alloc (blk_new w _) _
  ·
   repeat (first | exact Below.refl _ _ | apply below_alloc)
 case round =>
  obtain ⟨k, rfl, hk, HO, HX, HB⟩ := hrel
  by_cases hlt : k < 8
  ·
   have b1 : decide ((k : Int) < 8) = true := decide_eq_true (by omega)
   have c0 : wr.cell? ⟨w.heap.size, 0, none⟩ = some (.int .u64 hi) := blk_cell HX.out 0
   have c1 : wr.cell? ⟨w.heap.size, 1, none⟩ = some (.int .u64 lo) := blk_cell HX.out 1
   have hf : ∀ i, wr.frozen? ⟨w.heap.size + 1, i, none⟩ = false := fun i => blk_frozen HO.out i
   have p0 : (0 : Int) ≤ (k : Int) := by omega
   have p1 : (k : Int) < 16 := by omega
   have p2 : (k : Int) + 8 < 16 := by omega
   have p3 : (0 : Int) ≤ 56 - 8 * (k : Int) := by omega
   obtain ⟨v0, hv0⟩ : ∃ v, wr.cell? ⟨w.heap.size + 1, k, none⟩ = some v := by
    rw [blk_cell HO.out k, Array.getElem?_eq_getElem (by show k < 16; omega)]; exact ⟨_, rfl⟩
   obtain ⟨v1, hv1⟩ : ∃ v, wr.cell? ⟨w.heap.size + 1, k + 8, none⟩ = some v := by
    rw [blk_cell HO.out (k + 8), Array.getElem?_eq_getElem (by show k + 8 < 16; omega)]; exact ⟨_, rfl⟩
   have h8 := Aside0.mk (rowB_step hi lo k hlt)
   go_wp2_with fail
   clear hv0 hv1 hf c0 c1 b1 p0 p1 p2 p3
   go_roundw
   case rel =>
    refine ⟨k + 1, by go_num, by omega, ⟨?_⟩, ⟨?_⟩, ⟨?_⟩⟩
    ·
     rw [← h8.out]
     exact blk_set (blk_set HO.out k _) (k + 8) _
    ·
     exact blk_far (blk_far HX.out (show w.heap.size ≠ w.heap.size + 1 by omega) _) (show w.heap.size ≠ w.heap.size + 1 by omega) _
    ·
     exact below_set (below_set HB.out (Nat.le_add_right _ _)) (Nat.le_add_right _ _)
   case measure => simp [intOf]; omega
  ·
   have b1 : decide ((k : Int) < 8) = false := decide_eq_false (by omega)
   obtain rfl : k = 8 := by omega
   have hcv := run_convert_bytes_arg wr 56 5 Tryd.underlying56 Tryd.underlying5 (w.heap.size + 1) 0 16 16 ((List.range 8).map (halfB hi) ++ (List.range 8).map (halfB lo)) (by simp) (fun i hi16 => by
    rw [Nat.zero_add, blk_cell HO.out i]
    have : i = 0 ∨ i = 1 ∨ i = 2 ∨ i = 3 ∨ i = 4 ∨ i = 5 ∨ i = 6 ∨ i = 7 ∨ i = 8 ∨ i = 9 ∨ i = 10 ∨ i = 11 ∨ i = 12 ∨ i = 13 ∨ i = 14 ∨ i = 15 := by omega
    rcases this with h | h | h | h | h | h | h | h | h | h | h | h | h | h | h | h <;> subst h <;> rfl) 9 Tryd.underlying9
   go_wp2_with fail
   go_ret
   exact ⟨rfl, HB.out⟩
theorem u128_Bytes.calls (a0_0 : Int) (a0_1 : Int) (r : ByteArray) (w : World) (h : u128_Bytes.f a0_0 a0_1 = some r) :
  Calls Tryd.prog 76 #[.agg #[.int .u64 a0_0, .int .u64 a0_1]] w fun e w' => e = .returned (.string r) ∧ Below w.heap.size w w' := by
 cases h
 exact u128Bytes.calls a0_0 a0_1 w
end Go.Proofs.YtlmmpncdemblbaaDoor.P
namespace Go.Proofs.YtlmmpncdemblbaaDoor.P
open Go.RowKit Go.Proofs.YtlmmpncdemblbaaDoorW.PrintWords Go.Proofs.YtlmmpncdemblbaaDoorW.PrintLast Go.Proofs.YtlmmpncdemblbaaDoorW.PrintMore
set_option linter.unusedVariables false
set_option linter.unusedSimpArgs false
set_option linter.unnecessarySimpa false
/-! Layer 1, by digits: the sum and the bytes are what they are by halves. -/
theorem dig_l0_step {l r : List Int} {x4 hi lo : Int} (hx : 0 ≤ x4 ∧ x4 < 4) (h0 : 0 ≤ lo) (h1 : lo < 18446744073709551616) (hl : l.length < 1000)
  (h : Ev (fun k => paymasterref01_digits.l0 k (l ++ [lo % 65536]) (x4 + 1) hi (lo / 65536)) r) : Ev (fun k => paymasterref01_digits.l0 k l x4 hi lo) r := by
 refine Ev.step (f := fun k => paymasterref01_digits.l0 k (l ++ [lo % 65536]) (x4 + 1) hi (lo / 65536)) (fun k => ?_) h
 have e1 : Int.tmod lo 65536 = lo % 65536 := Int.tmod_eq_emod_of_nonneg h0
 have e2 : Int.tdiv lo 65536 = lo / 65536 := Int.tdiv_eq_ediv_of_nonneg h0
 rw [paymasterref01_digits.l0, if_pos hx.2, if_pos (by omega), e1, e2, wrap64_id (by omega) (by omega), wrapu64_id (by omega) (by omega)]
theorem dig_l1_step {l r : List Int} {x5 hi lo : Int} (hx : 0 ≤ x5 ∧ x5 < 4) (h0 : 0 ≤ hi) (h1 : hi < 18446744073709551616) (hl : l.length < 1000)
  (h : Ev (fun k => paymasterref01_digits.l1 k (l ++ [hi % 65536]) (x5 + 1) (hi / 65536) lo) r) : Ev (fun k => paymasterref01_digits.l1 k l x5 hi lo) r := by
 refine Ev.step (f := fun k => paymasterref01_digits.l1 k (l ++ [hi % 65536]) (x5 + 1) (hi / 65536) lo) (fun k => ?_) h
 have e1 : Int.tmod hi 65536 = hi % 65536 := Int.tmod_eq_emod_of_nonneg h0
 have e2 : Int.tdiv hi 65536 = hi / 65536 := Int.tdiv_eq_ediv_of_nonneg h0
 rw [paymasterref01_digits.l1, if_pos hx.2, if_pos (by omega), e1, e2, wrap64_id (by omega) (by omega), wrapu64_id (by omega) (by omega)]
/-- A number's eight digits, the least first. -/
def digsI (hi lo : Int) : List Int := [lo % 65536, lo / 65536 % 65536, lo / 65536 / 65536 % 65536, lo / 65536 / 65536 / 65536 % 65536, hi % 65536, hi / 65536 % 65536, hi / 65536 / 65536 % 65536, hi / 65536 / 65536 / 65536 % 65536]
theorem digits_ev (hi lo : Int) (h0 : 0 ≤ hi) (h1 : hi < 18446744073709551616) (l0 : 0 ≤ lo) (l1 : lo < 18446744073709551616) : Ev (fun k => paymasterref01_digits.f k hi lo) (digsI hi lo) := by
 unfold paymasterref01_digits.f
 refine dig_l0_step (by omega) l0 l1 (by simp) ?_
 refine dig_l0_step (by omega) (by omega) (by omega) (by simp) ?_
 refine dig_l0_step (by omega) (by omega) (by omega) (by simp) ?_
 refine dig_l0_step (by omega) (by omega) (by omega) (by simp) ?_
 refine Ev.step (f := fun k => paymasterref01_digits.l1 k ([] ++ [lo % 65536] ++ [lo / 65536 % 65536] ++ [lo / 65536 / 65536 % 65536] ++ [lo / 65536 / 65536 / 65536 % 65536]) 0 hi (lo / 65536 / 65536 / 65536 / 65536)) (fun k => by rw [paymasterref01_digits.l0, if_neg (by decide)]) ?_
 refine dig_l1_step (by omega) h0 h1 (by simp) ?_
 refine dig_l1_step (by omega) (by omega) (by omega) (by simp) ?_
 refine dig_l1_step (by omega) (by omega) (by omega) (by simp) ?_
 refine dig_l1_step (by omega) (by omega) (by omega) (by simp) ?_
 refine Ev.step (f := fun _ => some (digsI hi lo)) (fun k => by rw [paymasterref01_digits.l1, if_neg (by decide)]; rfl) (Ev.now _)
theorem num_hi {l : List Int} {i h lo : Int} {r : Int × Int × Bool} (hi : 4 ≤ i ∧ i < 8) (hl : i < (l.length : Int)) (b0 : 0 ≤ h) (b1 : h < 281474976710656) (d0 : 0 ≤ rd l i) (d1 : rd l i < 65536)
  (k : Ev (fun k => paymasterref01_number.l0 k l (i - 1) (h * 65536 + rd l i) lo) r) : Ev (fun k => paymasterref01_number.l0 k l i h lo) r := by
 refine Ev.step (f := fun k => paymasterref01_number.j1 k l i false h lo) (fun k => by rw [paymasterref01_number.l0, if_pos (by omega), if_neg (by omega)]) ?_
 refine Ev.step (f := fun k => paymasterref01_number.j2 k l i true h lo) (fun k => by rw [paymasterref01_number.j1, if_neg (by decide), if_pos hi.2, decide_eq_true (by omega)]) ?_
 refine Ev.step (f := fun k => paymasterref01_number.l0 k l (i - 1) (h * 65536 + rd l i) lo) (fun k => ?_) k
 rw [paymasterref01_number.j2, if_pos rfl, if_pos (by omega), if_pos hl, if_neg (by omega), wrap64_id (by omega) (by omega), wrapu64_id (x := h * 65536) (by omega) (by omega), wrapu64_id (by omega) (by omega)]
theorem num_lo {l : List Int} {i h lo : Int} {r : Int × Int × Bool} (hi : 0 ≤ i ∧ i < 4) (hl : i < (l.length : Int)) (b0 : 0 ≤ lo) (b1 : lo < 281474976710656) (d0 : 0 ≤ rd l i) (d1 : rd l i < 65536)
  (k : Ev (fun k => paymasterref01_number.l0 k l (i - 1) h (lo * 65536 + rd l i)) r) : Ev (fun k => paymasterref01_number.l0 k l i h lo) r := by
 refine Ev.step (f := fun k => paymasterref01_number.j1 k l i false h lo) (fun k => by rw [paymasterref01_number.l0, if_pos (by omega), if_neg (by omega)]) ?_
 refine Ev.step (f := fun k => paymasterref01_number.j2 k l i false h lo) (fun k => by rw [paymasterref01_number.j1, if_neg (by decide), if_pos (by omega), decide_eq_false (by omega)]) ?_
 refine Ev.step (f := fun k => paymasterref01_number.l0 k l (i - 1) h (lo * 65536 + rd l i)) (fun k => ?_) k
 rw [paymasterref01_number.j2, if_neg (by decide), if_pos (by omega), if_pos (by omega), if_pos hl, wrap64_id (by omega) (by omega), wrapu64_id (x := lo * 65536) (by omega) (by omega), wrapu64_id (by omega) (by omega)]
structure Dig (x : Int) : Prop where
 h0 : 0 ≤ x
 h1 : x < 65536
theorem number_ev (d0 d1 d2 d3 d4 d5 d6 d7 c : Int) (h0 : Dig d0) (h1 : Dig d1) (h2 : Dig d2) (h3 : Dig d3) (h4 : Dig d4) (h5 : Dig d5) (h6 : Dig d6) (h7 : Dig d7) :
  Ev (fun k => paymasterref01_number.f k [d0, d1, d2, d3, d4, d5, d6, d7, c]) (if c = 0 then (((d7 * 65536 + d6) * 65536 + d5) * 65536 + d4, ((d3 * 65536 + d2) * 65536 + d1) * 65536 + d0, true) else (0, 0, false)) := by
 have e8 : rd [d0, d1, d2, d3, d4, d5, d6, d7, c] 8 = c := rfl
 have e7 : rd [d0, d1, d2, d3, d4, d5, d6, d7, c] 7 = d7 := rfl
 have e6 : rd [d0, d1, d2, d3, d4, d5, d6, d7, c] 6 = d6 := rfl
 have e5 : rd [d0, d1, d2, d3, d4, d5, d6, d7, c] 5 = d5 := rfl
 have e4 : rd [d0, d1, d2, d3, d4, d5, d6, d7, c] 4 = d4 := rfl
 have e3 : rd [d0, d1, d2, d3, d4, d5, d6, d7, c] 3 = d3 := rfl
 have e2 : rd [d0, d1, d2, d3, d4, d5, d6, d7, c] 2 = d2 := rfl
 have e1 : rd [d0, d1, d2, d3, d4, d5, d6, d7, c] 1 = d1 := rfl
 have e0 : rd [d0, d1, d2, d3, d4, d5, d6, d7, c] 0 = d0 := rfl
 obtain ⟨⟨a0, b0⟩, ⟨a1, b1⟩, ⟨a2, b2⟩, ⟨a3, b3⟩, ⟨a4, b4⟩, ⟨a5, b5⟩, ⟨a6, b6⟩, ⟨a7, b7⟩⟩ := And.intro h0 (And.intro h1 (And.intro h2 (And.intro h3 (And.intro h4 (And.intro h5 (And.intro h6 h7))))))
 unfold paymasterref01_number.f
 have ew : wrap64 (([d0, d1, d2, d3, d4, d5, d6, d7, c].length : Int) - 1) = 8 := by rw [wrap64_id] <;> simp
 rw [ew]
 by_cases hc : c = 0
 ·
  rw [if_pos hc]
  refine Ev.step (f := fun k => paymasterref01_number.j1 k [d0, d1, d2, d3, d4, d5, d6, d7, c] 8 false 0 0) (fun k => ?_) ?_
  ·
   rw [paymasterref01_number.l0, if_pos (by omega), if_pos (by omega), if_pos (by omega), if_pos (by simp), e8, hc]; rfl
  refine Ev.step (f := fun k => paymasterref01_number.j2 k [d0, d1, d2, d3, d4, d5, d6, d7, c] 8 false 0 0) (fun k => by rw [paymasterref01_number.j1, if_neg (by decide), if_neg (by decide)]) ?_
  refine Ev.step (f := fun k => paymasterref01_number.l0 k [d0, d1, d2, d3, d4, d5, d6, d7, c] 7 0 0) (fun k => by rw [paymasterref01_number.j2, if_neg (by decide), if_neg (by decide), wrap64_id (by decide) (by decide)]; rfl) ?_
  refine num_hi (by omega) (by simp) (by omega) (by omega) (by rw [e7]; omega) (by rw [e7]; omega) ?_
  rw [e7]
  refine num_hi (by omega) (by simp) (by omega) (by omega) (by simp only [Int.reduceSub]; rw [e6]; omega) (by simp only [Int.reduceSub]; rw [e6]; omega) ?_
  simp only [Int.reduceSub]
  rw [e6]
  refine num_hi (by omega) (by simp) (by omega) (by omega) (by rw [e5]; omega) (by rw [e5]; omega) ?_
  simp only [Int.reduceSub]
  rw [e5]
  refine num_hi (by omega) (by simp) (by omega) (by omega) (by rw [e4]; omega) (by rw [e4]; omega) ?_
  simp only [Int.reduceSub]
  rw [e4]
  refine num_lo (by omega) (by simp) (by omega) (by omega) (by rw [e3]; omega) (by rw [e3]; omega) ?_
  simp only [Int.reduceSub]
  rw [e3]
  refine num_lo (by omega) (by simp) (by omega) (by omega) (by rw [e2]; omega) (by rw [e2]; omega) ?_
  simp only [Int.reduceSub]
  rw [e2]
  refine num_lo (by omega) (by simp) (by omega) (by omega) (by rw [e1]; omega) (by rw [e1]; omega) ?_
  simp only [Int.reduceSub]
  rw [e1]
  refine num_lo (by omega) (by simp) (by omega) (by omega) (by rw [e0]; omega) (by rw [e0]; omega) ?_
  simp only [Int.reduceSub]
  rw [e0]
  refine Ev.step (f := fun _ => some _) (fun k => by rw [paymasterref01_number.l0, if_neg (by decide)]) (ev_eq (Ev.now _) ?_)
  simp only [Int.zero_mul, Int.zero_add]
 ·
  rw [if_neg hc]
  refine Ev.step (f := fun k => paymasterref01_number.j1 k [d0, d1, d2, d3, d4, d5, d6, d7, c] 8 true 0 0) (fun k => ?_) ?_
  ·
   rw [paymasterref01_number.l0, if_pos (by omega), if_pos (by omega), if_pos (by omega), if_pos (by simp), e8, bne_iff_ne.2 hc]
  exact Ev.step (f := fun _ => some (0, 0, false)) (fun k => by rw [paymasterref01_number.j1, if_pos rfl]) (Ev.now _)
theorem add_step {x y l : List Int} {c i : Int} (d e : Int) {r : Int × Int × Int} (hi : 0 ≤ i ∧ i < 8) (hx : x.length = 8) (hy : y.length = 8) (hl : l.length < 1000) (ex : rd x i = d) (ey : rd y i = e) (hd : Dig d) (he : Dig e) (hc : 0 ≤ c ∧ c ≤ 1)
  (k : Ev (fun k => paymasterref01_Add.l0 k x y ((d + e + c) / 65536) (l ++ [(d + e + c) % 65536]) (i + 1)) r) : Ev (fun k => paymasterref01_Add.l0 k x y c l i) r := by
 obtain ⟨a0, b0⟩ := hd
 obtain ⟨a1, b1⟩ := he
 refine Ev.step (f := fun k => paymasterref01_Add.l0 k x y ((d + e + c) / 65536) (l ++ [(d + e + c) % 65536]) (i + 1)) (fun k => ?_) k
 rw [paymasterref01_Add.l0, if_pos hi.2, if_pos hi.1, if_pos (by omega), if_pos (by omega), if_pos (by omega), ex, ey, wrapu64_id (x := d + e) (by omega) (by omega), wrapu64_id (x := d + e + c) (by omega) (by omega), Int.tdiv_eq_ediv_of_nonneg (by omega), Int.tmod_eq_emod_of_nonneg (by omega), wrapu64_id (by omega) (by omega), wrap64_id (by omega) (by omega)]
/-- The sum, by halves. -/
def addI128 (a0 a1 b0 b1 : Int) : Int × Int × Int :=
 if a0 + b0 + (a1 + b1) / 18446744073709551616 < 18446744073709551616 then (a0 + b0 + (a1 + b1) / 18446744073709551616, (a1 + b1) % 18446744073709551616, 0) else (0, 0, 10)
theorem u128Add_eq (a0 a1 b0 b1 : Int) (ha0 : 0 ≤ a0 ∧ a0 < 18446744073709551616) (ha1 : 0 ≤ a1 ∧ a1 < 18446744073709551616) (hb0 : 0 ≤ b0 ∧ b0 < 18446744073709551616) (hb1 : 0 ≤ b1 ∧ b1 < 18446744073709551616) :
  u128_Add.f a0 a1 b0 b1 = some (addI128 a0 a1 b0 b1) := by
 unfold u128_Add.f addI128
 rw [if_pos ⟨⟨ha0, ha1⟩, hb0, hb1⟩]
 split <;> rfl
theorem dig_mod (x : Int) : Dig (x % 65536) := ⟨by omega, by omega⟩
theorem val4 (x : Int) (h0 : 0 ≤ x) (h1 : x < 18446744073709551616) : ((x / 65536 / 65536 / 65536 % 65536 * 65536 + x / 65536 / 65536 % 65536) * 65536 + x / 65536 % 65536) * 65536 + x % 65536 = x := by omega
theorem refAdd_ev (a0 a1 b0 b1 : Int) (ha0 : 0 ≤ a0 ∧ a0 < 18446744073709551616) (ha1 : 0 ≤ a1 ∧ a1 < 18446744073709551616) (hb0 : 0 ≤ b0 ∧ b0 < 18446744073709551616) (hb1 : 0 ≤ b1 ∧ b1 < 18446744073709551616) :
  Ev (fun k => paymasterref01_Add.f k a0 a1 b0 b1) (addI128 a0 a1 b0 b1) := by
 unfold paymasterref01_Add.f
 refine Ev.bind (digits_ev a0 a1 ha0.1 ha0.2 ha1.1 ha1.2) (Ev.bind (digits_ev b0 b1 hb0.1 hb0.2 hb1.1 hb1.2) ?_)
 have va0 := val4 a0 ha0.1 ha0.2
 have va1 := val4 a1 ha1.1 ha1.2
 have vb0 := val4 b0 hb0.1 hb0.2
 have vb1 := val4 b1 hb1.1 hb1.2
 unfold digsI
 have g0 := dig_mod a1
 have g1 := dig_mod (a1 / 65536)
 have g2 := dig_mod (a1 / 65536 / 65536)
 have g3 := dig_mod (a1 / 65536 / 65536 / 65536)
 have g4 := dig_mod a0
 have g5 := dig_mod (a0 / 65536)
 have g6 := dig_mod (a0 / 65536 / 65536)
 have g7 := dig_mod (a0 / 65536 / 65536 / 65536)
 have k0 := dig_mod b1
 have k1 := dig_mod (b1 / 65536)
 have k2 := dig_mod (b1 / 65536 / 65536)
 have k3 := dig_mod (b1 / 65536 / 65536 / 65536)
 have k4 := dig_mod b0
 have k5 := dig_mod (b0 / 65536)
 have k6 := dig_mod (b0 / 65536 / 65536)
 have k7 := dig_mod (b0 / 65536 / 65536 / 65536)
 generalize a1 % 65536 = x0 at *
 generalize a1 / 65536 % 65536 = x1 at *
 generalize a1 / 65536 / 65536 % 65536 = x2 at *
 generalize a1 / 65536 / 65536 / 65536 % 65536 = x3 at *
 generalize a0 % 65536 = x4 at *
 generalize a0 / 65536 % 65536 = x5 at *
 generalize a0 / 65536 / 65536 % 65536 = x6 at *
 generalize a0 / 65536 / 65536 / 65536 % 65536 = x7 at *
 generalize b1 % 65536 = y0 at *
 generalize b1 / 65536 % 65536 = y1 at *
 generalize b1 / 65536 / 65536 % 65536 = y2 at *
 generalize b1 / 65536 / 65536 / 65536 % 65536 = y3 at *
 generalize b0 % 65536 = y4 at *
 generalize b0 / 65536 % 65536 = y5 at *
 generalize b0 / 65536 / 65536 % 65536 = y6 at *
 generalize b0 / 65536 / 65536 / 65536 % 65536 = y7 at *
 have step : ∀ c d e : Int, Dig d → Dig e → 0 ≤ c ∧ c ≤ 1 → 0 ≤ (d + e + c) / 65536 ∧ (d + e + c) / 65536 ≤ 1 := fun c d e hd he hc => by have := hd.1; have := hd.2; have := he.1; have := he.2; omega
 have s0 : (0 : Int) ≤ 0 ∧ (0 : Int) ≤ 1 := by omega
 have s1 := step 0 x0 y0 g0 k0 s0
 have s2 := step _ x1 y1 g1 k1 s1
 have s3 := step _ x2 y2 g2 k2 s2
 have s4 := step _ x3 y3 g3 k3 s3
 have s5 := step _ x4 y4 g4 k4 s4
 have s6 := step _ x5 y5 g5 k5 s5
 have s7 := step _ x6 y6 g6 k6 s6
 refine add_step x0 y0 (by omega) rfl rfl (by simp) rfl rfl g0 k0 s0 ?_
 refine add_step x1 y1 (by omega) rfl rfl (by simp) rfl rfl g1 k1 s1 ?_
 refine add_step x2 y2 (by omega) rfl rfl (by simp) rfl rfl g2 k2 s2 ?_
 refine add_step x3 y3 (by omega) rfl rfl (by simp) rfl rfl g3 k3 s3 ?_
 refine add_step x4 y4 (by omega) rfl rfl (by simp) rfl rfl g4 k4 s4 ?_
 refine add_step x5 y5 (by omega) rfl rfl (by simp) rfl rfl g5 k5 s5 ?_
 refine add_step x6 y6 (by omega) rfl rfl (by simp) rfl rfl g6 k6 s6 ?_
 refine add_step x7 y7 (by omega) rfl rfl (by simp) rfl rfl g7 k7 s7 ?_
 clear step
 refine Ev.step (f := fun k => _) (fun k => by rw [paymasterref01_Add.l0, if_neg (by decide), if_pos (by simp)]) ?_
 refine Ev.bind (number_ev _ _ _ _ _ _ _ _ _ (dig_mod _) (dig_mod _) (dig_mod _) (dig_mod _) (dig_mod _) (dig_mod _) (dig_mod _) (dig_mod _)) ?_
 have qr : ∀ n : Int, ∃ q m : Int, n / 65536 = q ∧ n % 65536 = m ∧ n = q * 65536 + m ∧ 0 ≤ m ∧ m < 65536 := fun n => ⟨_, _, rfl, rfl, by omega, by omega, by omega⟩
 obtain ⟨q0, m0, hq0, hm0, e0, l0, u0⟩ := qr (x0 + y0 + 0)
 simp only [hq0, hm0] at s1 s2 s3 s4 s5 s6 s7 ⊢
 clear hq0 hm0
 obtain ⟨q1, m1, hq1, hm1, e1, l1, u1⟩ := qr (x1 + y1 + q0)
 simp only [hq1, hm1] at s2 s3 s4 s5 s6 s7 ⊢
 clear hq1 hm1
 obtain ⟨q2, m2, hq2, hm2, e2, l2, u2⟩ := qr (x2 + y2 + q1)
 simp only [hq2, hm2] at s3 s4 s5 s6 s7 ⊢
 clear hq2 hm2
 obtain ⟨q3, m3, hq3, hm3, e3, l3, u3⟩ := qr (x3 + y3 + q2)
 simp only [hq3, hm3] at s4 s5 s6 s7 ⊢
 clear hq3 hm3
 obtain ⟨q4, m4, hq4, hm4, e4, l4, u4⟩ := qr (x4 + y4 + q3)
 simp only [hq4, hm4] at s5 s6 s7 ⊢
 clear hq4 hm4
 obtain ⟨q5, m5, hq5, hm5, e5, l5, u5⟩ := qr (x5 + y5 + q4)
 simp only [hq5, hm5] at s6 s7 ⊢
 clear hq5 hm5
 obtain ⟨q6, m6, hq6, hm6, e6, l6, u6⟩ := qr (x6 + y6 + q5)
 simp only [hq6, hm6] at s7 ⊢
 clear hq6 hm6
 obtain ⟨q7, m7, hq7, hm7, e7, l7, u7⟩ := qr (x7 + y7 + q6)
 simp only [hq7, hm7]
 clear hq7 hm7
 have hq70 : 0 ≤ q7 := by have := g7.h0; have := k7.h0; omega
 have hlo : a1 + b1 = q3 * 18446744073709551616 + (((m3 * 65536 + m2) * 65536 + m1) * 65536 + m0) := by omega
 have hhi : a0 + b0 + q3 = q7 * 18446744073709551616 + (((m7 * 65536 + m6) * 65536 + m5) * 65536 + m4) := by omega
 have hL : 0 ≤ ((m3 * 65536 + m2) * 65536 + m1) * 65536 + m0 ∧ ((m3 * 65536 + m2) * 65536 + m1) * 65536 + m0 < 18446744073709551616 := by omega
 have hH : 0 ≤ ((m7 * 65536 + m6) * 65536 + m5) * 65536 + m4 ∧ ((m7 * 65536 + m6) * 65536 + m5) * 65536 + m4 < 18446744073709551616 := by omega
 generalize ((m3 * 65536 + m2) * 65536 + m1) * 65536 + m0 = L at *
 generalize ((m7 * 65536 + m6) * 65536 + m5) * 65536 + m4 = H at *
 have h4 : (a1 + b1) / 18446744073709551616 = q3 := by omega
 have h5 : (a1 + b1) % 18446744073709551616 = L := by omega
 clear hlo e0 e1 e2 e3 e4 e5 e6 e7 va0 va1 vb0 vb1 s0 s1 s2 s3 s4 s5 s6 s7 l0 l1 l2 l3 l4 l5 l6 l7 u0 u1 u2 u3 u4 u5 u6 u7
 unfold addI128
 rw [h4, h5]
 clear h4 h5
 by_cases hq : q7 = 0
 ·
  have hs : a0 + b0 + q3 = H := by rw [hhi, hq]; omega
  rw [hs, if_pos hH.2]
  exact Ev.some_ (fun k => by simp [hq])
 ·
  have hs : ¬ a0 + b0 + q3 < 18446744073709551616 := by omega
  rw [if_neg hs]
  exact Ev.some_ (fun k => by simp [hq])
theorem bytes_step {x l : List Int} {i : Int} {r : ByteArray} (hi : 0 ≤ i ∧ i < 8) (hx : x.length = 8) (hl : l.length < 1000) (d : Int) (ex : rd x i = d) (hd : Dig d)
  (k : Ev (fun k => paymasterref01_Bytes.l0 k x (l ++ [d / 256, d % 256]) (i - 1)) r) : Ev (fun k => paymasterref01_Bytes.l0 k x l i) r := by
 obtain ⟨a0, b0⟩ := hd
 refine Ev.step (f := fun k => paymasterref01_Bytes.l0 k x (l ++ [d / 256, d % 256]) (i - 1)) (fun k => ?_) k
 rw [paymasterref01_Bytes.l0, if_pos (by omega), if_pos hi.1, if_pos (by omega), ex, Int.tdiv_eq_ediv_of_nonneg (by omega), Int.tmod_eq_emod_of_nonneg (by omega), wrapu64_id (by omega) (by omega)]
 simp only [Option.bind_some]
 rw [if_pos (by simp; omega), wrap64_id (by omega) (by omega), show d / 256 % 256 = d / 256 by omega, show d % 256 % 256 = d % 256 by omega]
theorem refBytes_ev (hi lo : Int) (h0 : 0 ≤ hi ∧ hi < 18446744073709551616) (l0 : 0 ≤ lo ∧ lo < 18446744073709551616) : Ev (fun k => paymasterref01_Bytes.f k hi lo) (u128B hi lo) := by
 unfold paymasterref01_Bytes.f
 refine Ev.bind (digits_ev hi lo h0.1 h0.2 l0.1 l0.2) ?_
 unfold digsI
 refine bytes_step (by omega) rfl (by simp) (hi / 65536 / 65536 / 65536 % 65536) rfl (dig_mod _) ?_
 refine bytes_step (by omega) rfl (by simp) (hi / 65536 / 65536 % 65536) rfl (dig_mod _) ?_
 refine bytes_step (by omega) rfl (by simp) (hi / 65536 % 65536) rfl (dig_mod _) ?_
 refine bytes_step (by omega) rfl (by simp) (hi % 65536) rfl (dig_mod _) ?_
 refine bytes_step (by omega) rfl (by simp) (lo / 65536 / 65536 / 65536 % 65536) rfl (dig_mod _) ?_
 refine bytes_step (by omega) rfl (by simp) (lo / 65536 / 65536 % 65536) rfl (dig_mod _) ?_
 refine bytes_step (by omega) rfl (by simp) (lo / 65536 % 65536) rfl (dig_mod _) ?_
 refine bytes_step (by omega) rfl (by simp) (lo % 65536) rfl (dig_mod _) ?_
 refine Ev.step (f := fun _ => some _) (fun k => by rw [paymasterref01_Bytes.l0, if_neg (by decide)]) (ev_eq (Ev.now _) ?_)
 unfold u128B
 congr 1
 simp only [List.range, List.range.loop, List.map_cons, List.map_nil, List.nil_append, List.cons_append, halfB, Nat.reduceMul, Nat.reduceSub, Int.reducePow, List.cons.injEq, and_true]
 refine ⟨?_, ?_, ?_, ?_, ?_, ?_, ?_, ?_, ?_, ?_, ?_, ?_, ?_, ?_, ?_, ?_⟩ <;> omega
theorem u128B_size (hi lo : Int) : (u128B hi lo).size = 16 := by rw [u128B, strOfNums_size]; rfl
theorem u128Bytes_eq (hi lo : Int) : u128_Bytes.f hi lo = some (u128B hi lo) := rfl
end Go.Proofs.YtlmmpncdemblbaaDoor.P
namespace Go.Proofs.YtlmmpncdemblbaaDoor.P
open Go.RowKit Go.Proofs.YtlmmpncdemblbaaDoorW.PrintWords Go.Proofs.YtlmmpncdemblbaaDoorW.PrintLast Go.Proofs.YtlmmpncdemblbaaDoorW.PrintMore
set_option linter.unusedVariables false
set_option linter.unusedSimpArgs false
set_option linter.unnecessarySimpa false
/-! Leaves: may one be, its text, its node. -/
def mayLeafI (l : SLeaf) : Bool := if 32 < l.f2.size then false else if l.f0 = true then (if l.f1.toList = [] then (l.f3.f0 == 0 && (l.f3.f1 == 0)) else false) else mayIdI l.f1
theorem tagMayLeaf_eq (l : SLeaf) (hid : l.f1.size ≤ 1000000) : tag_MayLeaf.f l.f0 l.f1 l.f2 l.f3.f0 l.f3.f1 = some (mayLeafI l) := by
 unfold tag_MayLeaf.f mayLeafI
 by_cases h1 : 32 < l.f2.size
 ·
  rw [if_pos (by omega), if_pos h1]
 ·
  rw [if_neg (by omega), if_neg h1]
  cases l.f0 with
  | true =>
   simp only [if_true]
   by_cases h2 : l.f1.toList = []
   ·
    rw [if_pos h2, if_pos h2]
   ·
    rw [if_neg h2, if_neg h2]
  | false =>
   simp only [Bool.false_eq_true, if_false]
   have e : tag_MayId.f l.f1 = some (mayIdI l.f1) := by unfold tag_MayId.f; rw [if_pos hid]
   rw [e]; rfl
/-- A text with its length ahead. -/
def szI (s : ByteArray) : ByteArray := strOfNums [(s.size : Int) % 256] ++ s
theorem szI_size (s : ByteArray) : (szI s).size = 1 + s.size := by
 rw [szI, ByteArray.size_append, strOfNums_size]; rfl
def leafTextI (l : SLeaf) : ByteArray := if mayLeafI l = true then (if l.f0 = true then strOfNums [2] ++ szI l.f2 else strOfNums [0] ++ szI l.f1 ++ szI l.f2 ++ u128B l.f3.f0 l.f3.f1) else ⟨#[]⟩
theorem tagSized_eq (s : ByteArray) (hs : s.size ≤ 1000000) : tag_sized.f s = some (szI s) := by
 unfold tag_sized.f szI
 simp only [Option.bind_some]
 rw [if_pos (by rw [strOfNums_size]; show 1 + _ ≤ _; omega)]
end Go.Proofs.YtlmmpncdemblbaaDoor.P
namespace Go.Proofs.YtlmmpncdemblbaaDoor.P
open Go.RowKit Go.Proofs.YtlmmpncdemblbaaDoorW.PrintWords Go.Proofs.YtlmmpncdemblbaaDoorW.PrintLast Go.Proofs.YtlmmpncdemblbaaDoorW.PrintMore
set_option linter.unusedVariables false
set_option linter.unusedSimpArgs false
set_option linter.unnecessarySimpa false
/-! A region that draws its order, by an invariant: each operation is walked once, whatever stands behind it and ahead of it. -/
/-- A slot that an operation fills. -/
def sel (b : Bool) (v u : Value) : Value := match b with | true => v | false => u
theorem sel_true (v u : Value) : sel true v u = v := rfl
/-- What must have come up ahead of an operation. -/
def rgNeeds (o : Oper) : List Nat := (o.after.toList.filter (fun e => Region.binds .any e)).map (fun e => e.on)
def rgOrd (ops : Array Oper) : Bool := (List.range ops.size).all fun i => match ops[i]? with
 | some o => (rgNeeds o).all (fun j => decide (j < i))
 | none => true
/-- Number i is done, too. -/
def upd (l : Nat → Bool) (i : Nat) : Nat → Bool := fun j => if j = i then true else l j
def rgUndone (n : Nat) (l : Nat → Bool) : Nat := (List.range n).countP (fun j => !l j)
theorem rgUndone_zero {n : Nat} {l : Nat → Bool} (h : rgUndone n l = 0) : ∀ i, i < n → l i = true := by
 intro i hi
 have := List.countP_eq_zero.1 h i (List.mem_range.2 hi)
 simpa using this
theorem countP_upd (l : Nat → Bool) (i : Nat) (hl : l i = false) : ∀ L : List Nat, L.Nodup → i ∈ L → L.countP (fun j => !upd l i j) + 1 = L.countP (fun j => !l j)
 | [], _, h => absurd h (List.not_mem_nil)
 | x :: L, hn, h => by
  rw [List.countP_cons, List.countP_cons]
  by_cases e : x = i
  ·
   subst e
   have hx : x ∉ L := (List.nodup_cons.1 hn).1
   have e1 : L.countP (fun j => !upd l x j) = L.countP (fun j => !l j) := by
    refine List.countP_congr (fun j hj => ?_)
    have : j ≠ x := fun e => hx (e ▸ hj)
    simp [upd, this]
   rw [e1]; simp [upd, hl]
  ·
   have := countP_upd l i hl L (List.nodup_cons.1 hn).2 ((List.mem_cons.1 h).resolve_left (fun e' => e e'.symm))
   have e2 : upd l i x = l x := by simp [upd, e]
   rw [e2]; omega
theorem rgUndone_upd {n i : Nat} {l : Nat → Bool} (hi : i < n) (hl : l i = false) : rgUndone n (upd l i) + 1 = rgUndone n l := countP_upd l i hl _ List.nodup_range (List.mem_range.2 hi)
section
variable {P : Program} {ops : Array Oper} {Q : Exit → Act → World → Prop}
/-- One operation, walked. -/
def StepAt (P : Program) (ops : Array Oper) (Q : Exit → Act → World → Prop) (I : (Nat → Bool) → Act → World → Prop) (i : Nat) : Prop :=
 ∀ o, ops[i]? = some o → ∀ l a w, I l a w → l i = false → (∀ j ∈ rgNeeds o, l j = true) → if Region.wanted o (yielded ops a.tmps) = true then o.wp P a w (fun a' w' => I (upd l i) a' w') Q else I (upd l i) (a.put o.dst undef) w
theorem rg_any (I : (Nat → Bool) → Act → World → Prop) (hord : rgOrd ops = true) (hstep : ∀ i, i < ops.size → StepAt P ops Q I i) (hend : ∀ l a w, I l a w → (∀ i, i < ops.size → l i = true) → Q .normal a w) :
  ∀ (fuel : Nat) (arr : Array Bool) (a : Act) (w : World), arr.size = ops.size → I (fun j => arr.getD j false) a w → rgUndone ops.size (fun j => arr.getD j false) ≤ fuel → wpAny P .any ops Q fuel arr a w := by
 have hready : ∀ arr : Array Bool, arr.size = ops.size → Region.ready .any ops arr = [] → ∀ i, i < ops.size → arr.getD i false = true := by
  intro arr hs hr i
  induction i using Nat.strongRecOn with
  | ind i ih =>
   intro hi
   cases hb : arr.getD i false with
   | true => rfl
   | false =>
    exfalso
    have ho : ops[i]? = some ops[i] := Array.getElem?_eq_getElem hi
    have hall : (rgNeeds ops[i]).all (fun j => decide (j < i)) = true := by
     have := List.all_eq_true.1 hord i (List.mem_range.2 hi)
     simp only [ho] at this
     exact this
    have hmem : i ∈ Region.ready .any ops arr := by
     unfold Region.ready
     rw [List.mem_filter]
     refine ⟨List.mem_range.2 hi, ?_⟩
     have h1 : arr.getD i true = false := by
      simp only [Array.getD_eq_getD_getElem?] at hb ⊢
      rw [Array.getElem?_eq_getElem (by omega)] at hb ⊢
      simpa using hb
     simp only [h1, Bool.not_false, Bool.true_and, ho, Option.map_some, Option.getD_some]
     rw [← Array.all_toList, List.all_eq_true]
     intro e he
     cases hbd : Region.binds .any e with
     | false => rfl
     | true =>
      have hj : e.on ∈ rgNeeds ops[i] := List.mem_map.2 ⟨e, List.mem_filter.2 ⟨he, hbd⟩, rfl⟩
      have hlt : e.on < i := by simpa using List.all_eq_true.1 hall e.on hj
      rw [ih e.on hlt (by omega)]; rfl
    rw [hr] at hmem
    exact absurd hmem (List.not_mem_nil)
 intro fuel
 induction fuel with
 | zero =>
  intro arr a w hs hI hu
  have hd := rgUndone_zero (Nat.le_zero.1 hu)
  refine ⟨?_, hend _ a w hI hd⟩
  unfold Region.ready
  rw [List.filter_eq_nil_iff]
  intro i hi
  have h1 := hd i (List.mem_range.1 hi)
  have h2 : arr.getD i true = true := by
   have hlt := List.mem_range.1 hi
   simp only [Array.getD_eq_getD_getElem?] at h1 ⊢
   rw [Array.getElem?_eq_getElem (by omega)] at h1 ⊢
   simpa using h1
  simp [h2]
 | succ fuel ih =>
  intro arr a w hs hI hu
  refine ⟨fun hr => hend _ a w hI (hready arr hs hr), fun i hi => ?_⟩
  unfold Region.ready at hi
  rw [List.mem_filter] at hi
  obtain ⟨hir, hi2⟩ := hi
  have hlt := List.mem_range.1 hir
  have ho : ops[i]? = some ops[i] := Array.getElem?_eq_getElem hlt
  simp only [ho, Option.map_some, Option.getD_some, Bool.and_eq_true, Bool.not_eq_true'] at hi2
  have hb : arr.getD i false = false := by
   have h1 := hi2.1
   simp only [Array.getD_eq_getD_getElem?] at h1 ⊢
   rw [Array.getElem?_eq_getElem (by omega)] at h1 ⊢
   simpa using h1
  have hn : ∀ j ∈ rgNeeds ops[i], arr.getD j false = true := by
   intro j hj
   obtain ⟨e, he, rfl⟩ := List.mem_map.1 hj
   obtain ⟨he1, he2⟩ := List.mem_filter.1 he
   have h3 := hi2.2
   rw [← Array.all_toList, List.all_eq_true] at h3
   have := h3 e he1
   rw [he2] at this
   simpa using this
  have hst := hstep i hlt _ ho _ a w hI hb hn
  have hK : ∀ a' w', I (upd (fun j => arr.getD j false) i) a' w' → wpAny P .any ops Q fuel (arr.setIfInBounds i true) a' w' := by
   intro a' w' h'
   have e : (fun j => (arr.setIfInBounds i true).getD j false) = upd (fun j => arr.getD j false) i := by
    funext j
    unfold upd
    simp only [Array.getD_eq_getD_getElem?]
    by_cases e : j = i
    ·
     subst e
     rw [if_pos rfl, Array.getElem?_setIfInBounds_self_of_lt (by omega)]; rfl
    ·
     rw [if_neg e, Array.getElem?_setIfInBounds_ne (fun h => e h.symm)]
   refine ih _ a' w' (by simpa using hs) (by rw [e]; exact h') ?_
   rw [e]
   have := rgUndone_upd (l := fun j => arr.getD j false) hlt hb
   omega
  unfold wpOp
  rw [ho]
  dsimp only
  split
  ·
   rename_i hw
   rw [if_pos hw] at hst
   exact .inl (Oper.wp_mono hK hst)
  ·
   rename_i hw
   rw [if_neg hw] at hst
   exact hK _ _ hst
/-- A region, by an invariant. -/
theorem region_inv {id : Nat} {a : Act} {w : World} (I : (Nat → Bool) → Act → World → Prop) (n : Nat) (hm : P.follows .mixedOrders = true) (hn : ops.size = n) (hord : rgOrd ops = true) (h0 : I (fun _ => false) a w.drew)
  (hend : ∀ l a w, I l a w → (∀ i, i < n → l i = true) → Q .normal a w) (hstep : ∀ i, i < n → StepAt P ops Q I i) : (Code.region id ops true).wp P Q a w := by
 subst hn
 refine wp_region_any hm (rg_any I hord hstep hend ops.size _ a _ (by simp) ?_ ?_)
 ·
  have e : (fun j => (Array.replicate ops.size false).getD j false) = fun _ => false := by
   funext j
   simp only [Array.getD_eq_getD_getElem?, Array.getElem?_replicate]
   split <;> rfl
  rw [e]; exact h0
 ·
  unfold rgUndone
  have := List.countP_le_length (p := fun j => !(Array.replicate ops.size false).getD j false) (l := List.range ops.size)
  simpa using this
theorem rg_cons {p : Nat → Prop} {n : Nat} (h : ∀ i, i < n → p i) (hn : p n) : ∀ i, i < n + 1 → p i := fun i hi => by
 by_cases e : i = n
 ·
  subst e; exact hn
 ·
  exact h i (by omega)
theorem rg_nil {p : Nat → Prop} : ∀ i, i < 0 → p i := fun i hi => absurd hi (Nat.not_lt_zero _)
/-- An operation that yields a value. -/
theorem rg_step {I : (Nat → Bool) → Act → World → Prop} {i : Nat} {oi : Oper} (hi : ops[i]? = some oi)
  (h : ∀ l a w, I l a w → l i = false → (∀ j ∈ rgNeeds oi, l j = true) → if Region.wanted oi (yielded ops a.tmps) = true then oi.wp P a w (fun a' w' => I (upd l i) a' w') Q else I (upd l i) (a.put oi.dst undef) w) : StepAt P ops Q I i := by
 intro o ho
 rw [hi] at ho
 cases ho
 exact h
theorem rg_val {K : Act → World → Prop} {oi : Oper} {a : Act} {w w' : World} {v : Value} (hw : Region.wanted oi (yielded ops a.tmps) = true) (hrun : (execOp a.eval oi).run P w = .ok (.value v) w') (hK : K (a.put oi.dst v) w') :
  if Region.wanted oi (yielded ops a.tmps) = true then oi.wp P a w K Q else K (a.put oi.dst undef) w := by
 rw [if_pos hw]; unfold Oper.wp; rw [hrun]; exact hK
theorem rg_skip {K : Act → World → Prop} {oi : Oper} {a : Act} {w w' : World} (hw : Region.wanted oi (yielded ops a.tmps) = true) (hrun : (execOp a.eval oi).run P w = .ok .skip w') (hK : K (a.put oi.dst undef) w') :
  if Region.wanted oi (yielded ops a.tmps) = true then oi.wp P a w K Q else K (a.put oi.dst undef) w := by
 rw [if_pos hw]; unfold Oper.wp; rw [hrun]; exact hK
theorem rg_call {K : Act → World → Prop} {oi : Oper} {a : Act} {w : World} {f : FuncId} {args : Array Value} (hw : Region.wanted oi (yielded ops a.tmps) = true) (hrun : (execOp a.eval oi).run P w = .ok (.enter f args) w)
  (h : Calls P f args w fun e w' => ∃ v, e = .returned v ∧ K (a.put oi.dst v) w') :
  if Region.wanted oi (yielded ops a.tmps) = true then oi.wp P a w K Q else K (a.put oi.dst undef) w := by
 rw [if_pos hw]; unfold Oper.wp; rw [hrun]
 exact h.mono fun e w' ⟨v, he, hk⟩ => by subst he; exact hk
end
end Go.Proofs.YtlmmpncdemblbaaDoor.P
namespace Go.Proofs.YtlmmpncdemblbaaDoor.P
open Go.RowKit Go.Proofs.YtlmmpncdemblbaaDoorW.PrintWords Go.Proofs.YtlmmpncdemblbaaDoorW.PrintLast Go.Proofs.YtlmmpncdemblbaaDoorW.PrintMore
set_option linter.unusedVariables false
set_option linter.unusedSimpArgs false
set_option linter.unnecessarySimpa false
attribute [local go_sem] sel_true
/-! tag.LeafText. -/
abbrev leafC (l : SLeaf) : Array Value := #[.bool l.f0, .string l.f1, .string l.f2, .int .u64 l.f3.f0, .int .u64 l.f3.f1]
structure LtS (w W : World) (l : SLeaf) : Prop where
 hB : Below w.heap.size w W
 h0 : W.heap[w.heap.size]? = some (.cells (leafC l) 59 (0, 0))
theorem LtS.below {w W W' : World} {l : SLeaf} (h : LtS w W l) (hb : Below W.heap.size W W') : LtS w W' l := ⟨h.hB.trans (hb.mono h.hB.size), blk_below h.h0 hb⟩
set_option maxRecDepth 100000 in
set_option maxHeartbeats 2000000 in
theorem leafText.calls (l : SLeaf) (hid : l.f1.size ≤ 1000000) (hsa : l.f2.size ≤ 1000000) (w : World) (hK : LaidT w) :
  Calls Tryd.prog 87 #[.agg (leafC l)] w fun e w' => e = .returned (.string (leafTextI l)) ∧ Below w.heap.size w w' := by
 have HL := Aside0.mk hid
 have HR := Aside0.mk hsa
 have HK := Aside0.mk hK
 have HM := Aside0.mk (tagMayLeaf_eq l hid)
 have HT := Aside0.mk (show leafTextI l = if mayLeafI l = true then (if l.f0 = true then strOfNums [2] ++ szI l.f2 else strOfNums [0] ++ szI l.f1 ++ szI l.f2 ++ u128B l.f3.f0 l.f3.f1) else ⟨#[]⟩ from rfl)
 obtain ⟨bi, hbi⟩ : ∃ b, b = szI l.f1 := ⟨_, rfl⟩
 obtain ⟨bs, hbs⟩ : ∃ b, b = szI l.f2 := ⟨_, rfl⟩
 obtain ⟨bb, hbb⟩ : ∃ b, b = u128B l.f3.f0 l.f3.f1 := ⟨_, rfl⟩
 have HBl := Aside0.mk (show bi.size ≤ 1000001 by rw [hbi, szI_size]; omega)
 have HBr := Aside0.mk (show bs.size ≤ 1000001 by rw [hbs, szI_size]; omega)
 have HBb := Aside0.mk (show bb.size = 16 by rw [hbb, u128B_size])
 have HFi := Aside0.mk (show tag_sized.f l.f1 = some bi by rw [hbi]; exact tagSized_eq _ hid)
 have HFs := Aside0.mk (show tag_sized.f l.f2 = some bs by rw [hbs]; exact tagSized_eq _ hsa)
 have HFb := Aside0.mk (show u128_Bytes.f l.f3.f0 l.f3.f1 = some bb by rw [hbb]; exact u128Bytes_eq _ _)
 rw [← hbi, ← hbs, ← hbb] at HT
 clear hbi hbs hbb hid hsa hK
 generalize leafTextI l = tx at HT ⊢
 go_enter Tryd.func87, Tryd.ntmps87
 go_wp2_with fail
 have HS := Aside0.mk (show LtS w (w.alloc (.cells (leafC l) 59)) l from ⟨below_alloc (Below.refl _ _) _, blk_new w _⟩)
 refine (tag_MayLeaf.calls l.f0 l.f1 l.f2 l.f3.f0 l.f3.f1 _ _ (HK.out.below HS.out.hB) HM.out).mono ?_
 rintro x w1 ⟨rfl, hb⟩
 have hS1 := HS.out.below hb
 clear HS hb
 have HS := Aside0.mk hS1
 have cp : w1.cell? ⟨w.heap.size, 0, none⟩ = some (.bool l.f0) := blk_cell hS1.h0 0
 clear hS1
 cases hm : mayLeafI l with
 | false =>
  rw [hm] at HT
  have HT2 := Aside0.mk (HT.out.trans (if_neg (by decide)))
  clear hm HT
  go_wp2
  go_ret
  exact ⟨by rw [HT2.out]; rfl, HS.out.hB⟩
 | true =>
  rw [hm] at HT
  have HT2 := Aside0.mk (HT.out.trans (if_pos rfl))
  clear hm HT
  cases hp : l.f0 with
  | true =>
   rw [hp] at HT2 cp
   have HT3 := Aside0.mk (HT2.out.trans (if_pos rfl))
   clear HT2
   go_wp2
   refine region_inv (fun l_ a W => ∃ γ : Nat, a = ({ tmps := #[.agg (leafC l), .pointer (some ⟨w.heap.size, 0, none⟩), sel (l_ 6) (.string ((⟨#[2]⟩ : ByteArray) ++ bs)) (.string ⟨#[]⟩), .bool false, .agg #[.bool true, .string l.f1, .string l.f2, .int .u64 l.f3.f0, .int .u64 l.f3.f1], .bool true, .bool false, .bool true, .pointer (some ⟨w.heap.size, 0, none⟩), .bool true, sel (l_ 0) (.slice (some ⟨γ, 0, none⟩) 1 1) (undef), sel (l_ 1) (.string (⟨#[2]⟩ : ByteArray)) (undef), sel (l_ 2) (.pointer (some ⟨w.heap.size, 2, none⟩)) (undef), sel (l_ 3) (.string l.f2) (undef), sel (l_ 4) (.string bs) (undef), sel (l_ 5) (.string ((⟨#[2]⟩ : ByteArray) ++ bs)) (undef), undef, undef, undef, undef, undef, undef, undef, undef, undef, undef, undef, undef, undef, undef], defers := [] } : Act) ∧ (LtS w W l ∧ (l_ 0 = true → W.heap[γ]? = some (.cells #[.int .u8 2] 5 (0, 0))))) 7 rfl rfl (by kernel_rfl) ?h0 ?hend ?hstep
   case h0 => exact ⟨0, rfl, HS.out.below (below_drew (Below.refl _ _)), fun h => by cases h⟩
   case hstep =>
    refine rg_cons (rg_cons (rg_cons (rg_cons (rg_cons (rg_cons (rg_cons (rg_nil) ?s0) ?s1) ?s2) ?s3) ?s4) ?s5) ?s6
    case s0 =>
     refine rg_step rfl ?_
     rintro l_ a W ⟨γ, rfl, hI⟩ hl hd
     clear hd
     refine rg_val (v := .slice (some ⟨W.heap.size, 0, none⟩) 1 1) (w' := W.alloc (.cells #[.int .u8 2] 5)) rfl (by go_simp) ?_
     refine ⟨W.heap.size, ?_, ?_⟩
     ·
      simp only [Act.put, List.setIfInBounds_toArray, List.set_cons_zero, List.set_cons_succ]; rfl
     ·
      exact ⟨hI.1.below (below_alloc (Below.refl _ _) _), fun _ => blk_new W _⟩
    case s1 =>
     refine rg_step rfl ?_
     rintro l_ a W ⟨γ, rfl, hI⟩ hl hd
     have d0 := hd 0 (by decide)
     clear hd
     have y0 := blk_cell (hI.2 d0) 0
     simp at y0
     refine rg_val (v := .string (⟨#[2]⟩ : ByteArray)) (w' := W) rfl ?_ ?_
     ·
      have hcv := run_convert_bytes_arg (P := Tryd.prog) (w := W) 56 5 Tryd.underlying56 Tryd.underlying5 γ 0 1 1 [2] rfl (fun i hi => by obtain rfl : i = 0 := (by omega); exact y0) 9 Tryd.underlying9
      rw [show strOfNums [2] = (⟨#[2]⟩ : ByteArray) from rfl] at hcv
      go_simp
     refine ⟨γ, ?_, ?_⟩
     ·
      simp only [Act.put, List.setIfInBounds_toArray, List.set_cons_zero, List.set_cons_succ]; rfl
     ·
      exact hI
    case s2 =>
     refine rg_step rfl ?_
     rintro l_ a W ⟨γ, rfl, hI⟩ hl hd
     clear hd
     refine rg_val (v := .pointer (some ⟨w.heap.size, 2, none⟩)) (w' := W) rfl (by go_simp) ?_
     refine ⟨γ, ?_, ?_⟩
     ·
      simp only [Act.put, List.setIfInBounds_toArray, List.set_cons_zero, List.set_cons_succ]; rfl
     ·
      exact hI
    case s3 =>
     refine rg_step rfl ?_
     rintro l_ a W ⟨γ, rfl, hI⟩ hl hd
     have d2 := hd 2 (by decide)
     clear hd
     have x2 := blk_cell (hI.1.h0) 2
     simp at x2
     refine rg_val (v := .string l.f2) (w' := W) rfl (by go_simp) ?_
     refine ⟨γ, ?_, ?_⟩
     ·
      simp only [Act.put, List.setIfInBounds_toArray, List.set_cons_zero, List.set_cons_succ]; rfl
     ·
      exact hI
    case s4 =>
     refine rg_step rfl ?_
     rintro l_ a W ⟨γ, rfl, hI⟩ hl hd
     have d3 := hd 3 (by decide)
     clear hd
     refine rg_call rfl (by go_simp; exact ⟨rfl, rfl⟩) ?_
     refine (tag_sized.calls _ _ _ HFs.out).mono ?_
     rintro x W' ⟨rfl, hb⟩
     refine ⟨_, rfl, γ, ?_, ?_⟩
     ·
      simp only [Act.put, List.setIfInBounds_toArray, List.set_cons_zero, List.set_cons_succ]; rfl
     ·
      exact ⟨hI.1.below hb, fun h => blk_below (hI.2 h) hb⟩
    case s5 =>
     refine rg_step rfl ?_
     rintro l_ a W ⟨γ, rfl, hI⟩ hl hd
     have d1 := hd 1 (by decide)
     have d4 := hd 4 (by decide)
     clear hd
     refine rg_val (v := .string ((⟨#[2]⟩ : ByteArray) ++ bs)) (w' := W) rfl (by go_simp; have := HBl.out; have := HBr.out; have := HBb.out; omega) ?_
     refine ⟨γ, ?_, ?_⟩
     ·
      simp only [Act.put, List.setIfInBounds_toArray, List.set_cons_zero, List.set_cons_succ]; rfl
     ·
      exact hI
    case s6 =>
     refine rg_step rfl ?_
     rintro l_ a W ⟨γ, rfl, hI⟩ hl hd
     have d5 := hd 5 (by decide)
     clear hd
     refine rg_val (v := .string ((⟨#[2]⟩ : ByteArray) ++ bs)) (w' := W) rfl (by go_simp) ?_
     refine ⟨γ, ?_, ?_⟩
     ·
      simp only [Act.put, List.setIfInBounds_toArray, List.set_cons_zero, List.set_cons_succ]; rfl
     ·
      exact hI
   case hend =>
    rintro l_ a W ⟨γ, rfl, hI⟩ hall
    have e0 := hall 0 (by decide)
    have e1 := hall 1 (by decide)
    have e2 := hall 2 (by decide)
    have e3 := hall 3 (by decide)
    have e4 := hall 4 (by decide)
    have e5 := hall 5 (by decide)
    have e6 := hall 6 (by decide)
    clear hall
    simp only [e0, e1, e2, e3, e4, e5, e6, sel_true]
    clear e0 e1 e2 e3 e4 e5 e6
    have HI := Aside0.mk hI.1
    clear hI
    go_wp2
    go_ret
    exact ⟨by rw [HT3.out]; rfl, HI.out.hB⟩
  | false =>
   rw [hp] at HT2 cp
   have HT3 := Aside0.mk (HT2.out.trans (if_neg (by decide)))
   clear HT2
   go_wp2
   refine region_inv (fun l_ a W => ∃ γ : Nat, a = ({ tmps := #[.agg (leafC l), .pointer (some ⟨w.heap.size, 0, none⟩), sel (l_ 14) (.string ((⟨#[0]⟩ : ByteArray) ++ bi ++ bs ++ bb)) (.string ⟨#[]⟩), .bool false, .agg #[.bool false, .string l.f1, .string l.f2, .int .u64 l.f3.f0, .int .u64 l.f3.f1], .bool true, .bool false, .bool false, .pointer (some ⟨w.heap.size, 0, none⟩), .bool false, undef, undef, undef, undef, undef, undef, sel (l_ 0) (.slice (some ⟨γ, 0, none⟩) 1 1) (undef), sel (l_ 1) (.string (⟨#[0]⟩ : ByteArray)) (undef), sel (l_ 2) (.pointer (some ⟨w.heap.size, 1, none⟩)) (undef), sel (l_ 3) (.string l.f1) (undef), sel (l_ 4) (.string bi) (undef), sel (l_ 5) (.string ((⟨#[0]⟩ : ByteArray) ++ bi)) (undef), sel (l_ 6) (.pointer (some ⟨w.heap.size, 2, none⟩)) (undef), sel (l_ 7) (.string l.f2) (undef), sel (l_ 8) (.string bs) (undef), sel (l_ 9) (.string ((⟨#[0]⟩ : ByteArray) ++ bi ++ bs)) (undef), sel (l_ 10) (.pointer (some ⟨w.heap.size, 3, none⟩)) (undef), sel (l_ 11) (.agg #[.int .u64 l.f3.f0, .int .u64 l.f3.f1]) (undef), sel (l_ 12) (.string bb) (undef), sel (l_ 13) (.string ((⟨#[0]⟩ : ByteArray) ++ bi ++ bs ++ bb)) (undef)], defers := [] } : Act) ∧ (LtS w W l ∧ (l_ 0 = true → W.heap[γ]? = some (.cells #[.int .u8 0] 5 (0, 0))))) 15 rfl rfl (by kernel_rfl) ?h0 ?hend ?hstep
   case h0 => exact ⟨0, rfl, HS.out.below (below_drew (Below.refl _ _)), fun h => by cases h⟩
   case hstep =>
    refine rg_cons (rg_cons (rg_cons (rg_cons (rg_cons (rg_cons (rg_cons (rg_cons (rg_cons (rg_cons (rg_cons (rg_cons (rg_cons (rg_cons (rg_cons (rg_nil) ?s0) ?s1) ?s2) ?s3) ?s4) ?s5) ?s6) ?s7) ?s8) ?s9) ?s10) ?s11) ?s12) ?s13) ?s14
    case s0 =>
     refine rg_step rfl ?_
     rintro l_ a W ⟨γ, rfl, hI⟩ hl hd
     clear hd
     refine rg_val (v := .slice (some ⟨W.heap.size, 0, none⟩) 1 1) (w' := W.alloc (.cells #[.int .u8 0] 5)) rfl (by go_simp) ?_
     refine ⟨W.heap.size, ?_, ?_⟩
     ·
      simp only [Act.put, List.setIfInBounds_toArray, List.set_cons_zero, List.set_cons_succ]; rfl
     ·
      exact ⟨hI.1.below (below_alloc (Below.refl _ _) _), fun _ => blk_new W _⟩
    case s1 =>
     refine rg_step rfl ?_
     rintro l_ a W ⟨γ, rfl, hI⟩ hl hd
     have d0 := hd 0 (by decide)
     clear hd
     have y0 := blk_cell (hI.2 d0) 0
     simp at y0
     refine rg_val (v := .string (⟨#[0]⟩ : ByteArray)) (w' := W) rfl ?_ ?_
     ·
      have hcv := run_convert_bytes_arg (P := Tryd.prog) (w := W) 56 5 Tryd.underlying56 Tryd.underlying5 γ 0 1 1 [0] rfl (fun i hi => by obtain rfl : i = 0 := (by omega); exact y0) 9 Tryd.underlying9
      rw [show strOfNums [0] = (⟨#[0]⟩ : ByteArray) from rfl] at hcv
      go_simp
     refine ⟨γ, ?_, ?_⟩
     ·
      simp only [Act.put, List.setIfInBounds_toArray, List.set_cons_zero, List.set_cons_succ]; rfl
     ·
      exact hI
    case s2 =>
     refine rg_step rfl ?_
     rintro l_ a W ⟨γ, rfl, hI⟩ hl hd
     clear hd
     refine rg_val (v := .pointer (some ⟨w.heap.size, 1, none⟩)) (w' := W) rfl (by go_simp) ?_
     refine ⟨γ, ?_, ?_⟩
     ·
      simp only [Act.put, List.setIfInBounds_toArray, List.set_cons_zero, List.set_cons_succ]; rfl
     ·
      exact hI
    case s3 =>
     refine rg_step rfl ?_
     rintro l_ a W ⟨γ, rfl, hI⟩ hl hd
     have d2 := hd 2 (by decide)
     clear hd
     have x1 := blk_cell (hI.1.h0) 1
     simp at x1
     refine rg_val (v := .string l.f1) (w' := W) rfl (by go_simp) ?_
     refine ⟨γ, ?_, ?_⟩
     ·
      simp only [Act.put, List.setIfInBounds_toArray, List.set_cons_zero, List.set_cons_succ]; rfl
     ·
      exact hI
    case s4 =>
     refine rg_step rfl ?_
     rintro l_ a W ⟨γ, rfl, hI⟩ hl hd
     have d3 := hd 3 (by decide)
     clear hd
     refine rg_call rfl (by go_simp; exact ⟨rfl, rfl⟩) ?_
     refine (tag_sized.calls _ _ _ HFi.out).mono ?_
     rintro x W' ⟨rfl, hb⟩
     refine ⟨_, rfl, γ, ?_, ?_⟩
     ·
      simp only [Act.put, List.setIfInBounds_toArray, List.set_cons_zero, List.set_cons_succ]; rfl
     ·
      exact ⟨hI.1.below hb, fun h => blk_below (hI.2 h) hb⟩
    case s5 =>
     refine rg_step rfl ?_
     rintro l_ a W ⟨γ, rfl, hI⟩ hl hd
     have d1 := hd 1 (by decide)
     have d4 := hd 4 (by decide)
     clear hd
     refine rg_val (v := .string ((⟨#[0]⟩ : ByteArray) ++ bi)) (w' := W) rfl (by go_simp; have := HBl.out; have := HBr.out; have := HBb.out; omega) ?_
     refine ⟨γ, ?_, ?_⟩
     ·
      simp only [Act.put, List.setIfInBounds_toArray, List.set_cons_zero, List.set_cons_succ]; rfl
     ·
      exact hI
    case s6 =>
     refine rg_step rfl ?_
     rintro l_ a W ⟨γ, rfl, hI⟩ hl hd
     clear hd
     refine rg_val (v := .pointer (some ⟨w.heap.size, 2, none⟩)) (w' := W) rfl (by go_simp) ?_
     refine ⟨γ, ?_, ?_⟩
     ·
      simp only [Act.put, List.setIfInBounds_toArray, List.set_cons_zero, List.set_cons_succ]; rfl
     ·
      exact hI
    case s7 =>
     refine rg_step rfl ?_
     rintro l_ a W ⟨γ, rfl, hI⟩ hl hd
     have d6 := hd 6 (by decide)
     clear hd
     have x2 := blk_cell (hI.1.h0) 2
     simp at x2
     refine rg_val (v := .string l.f2) (w' := W) rfl (by go_simp) ?_
     refine ⟨γ, ?_, ?_⟩
     ·
      simp only [Act.put, List.setIfInBounds_toArray, List.set_cons_zero, List.set_cons_succ]; rfl
     ·
      exact hI
    case s8 =>
     refine rg_step rfl ?_
     rintro l_ a W ⟨γ, rfl, hI⟩ hl hd
     have d7 := hd 7 (by decide)
     clear hd
     refine rg_call rfl (by go_simp; exact ⟨rfl, rfl⟩) ?_
     refine (tag_sized.calls _ _ _ HFs.out).mono ?_
     rintro x W' ⟨rfl, hb⟩
     refine ⟨_, rfl, γ, ?_, ?_⟩
     ·
      simp only [Act.put, List.setIfInBounds_toArray, List.set_cons_zero, List.set_cons_succ]; rfl
     ·
      exact ⟨hI.1.below hb, fun h => blk_below (hI.2 h) hb⟩
    case s9 =>
     refine rg_step rfl ?_
     rintro l_ a W ⟨γ, rfl, hI⟩ hl hd
     have d5 := hd 5 (by decide)
     have d8 := hd 8 (by decide)
     clear hd
     refine rg_val (v := .string ((⟨#[0]⟩ : ByteArray) ++ bi ++ bs)) (w' := W) rfl (by go_simp; have := HBl.out; have := HBr.out; have := HBb.out; omega) ?_
     refine ⟨γ, ?_, ?_⟩
     ·
      simp only [Act.put, List.setIfInBounds_toArray, List.set_cons_zero, List.set_cons_succ]; rfl
     ·
      exact hI
    case s10 =>
     refine rg_step rfl ?_
     rintro l_ a W ⟨γ, rfl, hI⟩ hl hd
     clear hd
     refine rg_val (v := .pointer (some ⟨w.heap.size, 3, none⟩)) (w' := W) rfl (by go_simp) ?_
     refine ⟨γ, ?_, ?_⟩
     ·
      simp only [Act.put, List.setIfInBounds_toArray, List.set_cons_zero, List.set_cons_succ]; rfl
     ·
      exact hI
    case s11 =>
     refine rg_step rfl ?_
     rintro l_ a W ⟨γ, rfl, hI⟩ hl hd
     have d10 := hd 10 (by decide)
     clear hd
     have x3 := blk_cell (hI.1.h0) 3
     have x4 := blk_cell (hI.1.h0) 4
     simp at x3 x4
     refine rg_val (v := .agg #[.int .u64 l.f3.f0, .int .u64 l.f3.f1]) (w' := W) rfl (by go_simp) ?_
     refine ⟨γ, ?_, ?_⟩
     ·
      simp only [Act.put, List.setIfInBounds_toArray, List.set_cons_zero, List.set_cons_succ]; rfl
     ·
      exact hI
    case s12 =>
     refine rg_step rfl ?_
     rintro l_ a W ⟨γ, rfl, hI⟩ hl hd
     have d11 := hd 11 (by decide)
     clear hd
     refine rg_call rfl (by go_simp; exact ⟨rfl, rfl⟩) ?_
     refine (u128_Bytes.calls _ _ _ _ HFb.out).mono ?_
     rintro x W' ⟨rfl, hb⟩
     refine ⟨_, rfl, γ, ?_, ?_⟩
     ·
      simp only [Act.put, List.setIfInBounds_toArray, List.set_cons_zero, List.set_cons_succ]; rfl
     ·
      exact ⟨hI.1.below hb, fun h => blk_below (hI.2 h) hb⟩
    case s13 =>
     refine rg_step rfl ?_
     rintro l_ a W ⟨γ, rfl, hI⟩ hl hd
     have d9 := hd 9 (by decide)
     have d12 := hd 12 (by decide)
     clear hd
     refine rg_val (v := .string ((⟨#[0]⟩ : ByteArray) ++ bi ++ bs ++ bb)) (w' := W) rfl (by go_simp; have := HBl.out; have := HBr.out; have := HBb.out; omega) ?_
     refine ⟨γ, ?_, ?_⟩
     ·
      simp only [Act.put, List.setIfInBounds_toArray, List.set_cons_zero, List.set_cons_succ]; rfl
     ·
      exact hI
    case s14 =>
     refine rg_step rfl ?_
     rintro l_ a W ⟨γ, rfl, hI⟩ hl hd
     have d13 := hd 13 (by decide)
     clear hd
     refine rg_val (v := .string ((⟨#[0]⟩ : ByteArray) ++ bi ++ bs ++ bb)) (w' := W) rfl (by go_simp) ?_
     refine ⟨γ, ?_, ?_⟩
     ·
      simp only [Act.put, List.setIfInBounds_toArray, List.set_cons_zero, List.set_cons_succ]; rfl
     ·
      exact hI
   case hend =>
    rintro l_ a W ⟨γ, rfl, hI⟩ hall
    have e0 := hall 0 (by decide)
    have e1 := hall 1 (by decide)
    have e2 := hall 2 (by decide)
    have e3 := hall 3 (by decide)
    have e4 := hall 4 (by decide)
    have e5 := hall 5 (by decide)
    have e6 := hall 6 (by decide)
    have e7 := hall 7 (by decide)
    have e8 := hall 8 (by decide)
    have e9 := hall 9 (by decide)
    have e10 := hall 10 (by decide)
    have e11 := hall 11 (by decide)
    have e12 := hall 12 (by decide)
    have e13 := hall 13 (by decide)
    have e14 := hall 14 (by decide)
    clear hall
    simp only [e0, e1, e2, e3, e4, e5, e6, e7, e8, e9, e10, e11, e12, e13, e14, sel_true]
    clear e0 e1 e2 e3 e4 e5 e6 e7 e8 e9 e10 e11 e12 e13 e14
    have HI := Aside0.mk hI.1
    clear hI
    go_wp2
    go_ret
    exact ⟨by rw [HT3.out]; rfl, HI.out.hB⟩
def tag_LeafText.f (a0 : Bool) (a1 a2 : ByteArray) (a3 a4 : Int) : Option ByteArray := if a1.size ≤ 1000000 ∧ a2.size ≤ 1000000 then some (leafTextI ⟨a0, a1, a2, ⟨a3, a4⟩⟩) else none
theorem tag_LeafText.calls (a0 : Bool) (a1 a2 : ByteArray) (a3 a4 : Int) (r : ByteArray) (w : World) (hK : LaidT w) (h : tag_LeafText.f a0 a1 a2 a3 a4 = some r) :
  Calls Tryd.prog 87 #[.agg #[.bool a0, .string a1, .string a2, .int .u64 a3, .int .u64 a4]] w fun e w' => e = .returned (.string r) ∧ Below w.heap.size w w' := by
 unfold tag_LeafText.f at h
 split at h
 ·
  rename_i hh
  obtain rfl := Option.some.inj h
  exact leafText.calls ⟨a0, a1, a2, ⟨a3, a4⟩⟩ hh.1 hh.2 w hK
 ·
  cases h
end Go.Proofs.YtlmmpncdemblbaaDoor.P
