-- Several texts of this workplace as one.
import Derived.Test.YtlmmpncdemblbaaGreatDoorZVerifyTells2
import Derived.Test.YtlmmpncdemblbaaGreatDoorProg
import Derived.Deep.OwnRows
import Derived.Laws.Rows
import Derived.Test.YtlmmpncdemblbaaGreatDoorRows
import Derived.Test.YtlmmpncdemblbaaGreatDoorCards
import Derived.Test.YtlmmpncdemblbaaGreatDoorTie
namespace Go.Proofs.YtlmmpncdemblbaaGreatDoor.P
open Go.RowKit Go.Proofs.YtlmmpncdemblbaaGreatDoorW.PrintWords Go.Proofs.YtlmmpncdemblbaaGreatDoorW.PrintLast Go.Proofs.YtlmmpncdemblbaaGreatDoorW.PrintMore
attribute [local go_sem] max2_int min2_int max_two min_two max_three min_three max_four min_four-- for this text's walks alone
set_option linter.unusedVariables false
set_option linter.unusedSimpArgs false
def paymasterref07_Digest.f (a0 : Int) (a1 : ByteArray) : Option (ByteArray) := (paymasterref07_MayWidth.f a0).bind fun t104 => (if t104 = true then ((ref05_Sum.f a1).bind fun t105 => (if 0 ≤ a0 then (if a0 ≤ (t105.size : Int) then (some (t105.extract 0 (a0 : Int).toNat)) else (none)) else (none))) else (some (⟨#[]⟩ : ByteArray)))
set_option maxHeartbeats 8000000 in
set_option maxRecDepth 100000 in
theorem paymasterref07_Digest.calls (a0 : Int) (a1 : ByteArray) (r : ByteArray) (w : World) (h : paymasterref07_Digest.f a0 a1 = some r) :
  Calls Tryz.prog 45 #[.int .i64 a0, .string a1] w fun e w' => e = .returned (.string r) ∧ Below w.heap.size w w' := by
 have HB := aM' (Below.refl w.heap.size w)
 have H : ((paymasterref07_MayWidth.f a0).bind fun t104 => (if t104 = true then ((ref05_Sum.f a1).bind fun t105 => (if 0 ≤ a0 then (if a0 ≤ (t105.size : Int) then (some (t105.extract 0 (a0 : Int).toNat)) else (none)) else (none))) else (some (⟨#[]⟩ : ByteArray)))) = some r := h
 clear h
 replace H := Option.bind_eq_some_iff.mp H
 obtain ⟨t104, A30, H⟩ := H
 replace H : (if t104 = true then ((ref05_Sum.f a1).bind fun t105 => (if 0 ≤ a0 then (if a0 ≤ (t105.size : Int) then (some (t105.extract 0 (a0 : Int).toNat)) else (none)) else (none))) else (some (⟨#[]⟩ : ByteArray))) = some r := H
 have A3 := aM' A30
 clear A30
 by_cases c4 : t104 = true
 ·
  subst c4
  have H1 : ((ref05_Sum.f a1).bind fun t105 => (if 0 ≤ a0 then (if a0 ≤ (t105.size : Int) then (some (t105.extract 0 (a0 : Int).toNat)) else (none)) else (none))) = some r := by rw [if_pos rfl] at H; exact H
  clear H
  have H := H1
  clear H1
  replace H := Option.bind_eq_some_iff.mp H
  obtain ⟨t105, A50, H⟩ := H
  replace H : (if 0 ≤ a0 then (if a0 ≤ (t105.size : Int) then (some (t105.extract 0 (a0 : Int).toNat)) else (none)) else (none)) = some r := H
  have A5 := aM' A50
  clear A50
  by_cases c6 : 0 ≤ a0
  ·
   rw [if_pos c6] at H
   have c6b0 := eq_true c6
   have c6b1 : decide (0 ≤ a0) = true := decide_eq_true c6
   clear c6
   by_cases c7 : a0 ≤ (t105.size : Int)
   ·
    rw [if_pos c7] at H
    have c7b0 := eq_true c7
    have c7b1 : decide (a0 ≤ (t105.size : Int)) = true := decide_eq_true c7
    clear c7
    obtain rfl := Option.some.inj H
    go_enter Tryz.func45, Tryz.ntmps45
    go_wp2_with (first | ((with_reducible refine gate_callee (f := 44) rfl ?_); refine goesL_ (some 6) rfl rfl Tryz.func44 (by kernel_rfl) rfl #[.int .i64 a0] rfl (by (try simp only [List.map_toArray, List.map_cons, List.map_nil]); first | done | rfl | (simp only [List.length_drop, List.length_take]; rfl)) ?_; (with_reducible refine (paymasterref07_MayWidth.calls a0 true _ A3.out).mono ?_); rintro e w' ⟨rfl, ⟨nd, rfl⟩⟩; refine ⟨_, rfl, ?_⟩) | ((with_reducible refine gate_callee (f := 62) rfl ?_); refine goesL_ (some 9) rfl rfl Tryz.func62 (by kernel_rfl) rfl #[.string a1] rfl (by (try simp only [List.map_toArray, List.map_cons, List.map_nil]); first | done | rfl | (simp only [List.length_drop, List.length_take]; rfl)) ?_; (with_reducible refine (ref05_Sum.calls a1 t105 _ A5.out).mono ?_); rintro e w8 ⟨rfl, hb⟩; refine ⟨_, rfl, ?_⟩; have n0_ := aM' (below_step (by repeat (first | (with_reducible first | exact HB.out | apply below_alloc | apply pw_below_drewN | apply below_drew1) | exact HB.out)) hb); clear HB; have HB := n0_; clear n0_; (try clear hb); (try clear hb2); (try clear hk); (try clear hi)))
    go_ret
    exact ⟨by first | rfl | (simp [errW_none, errW_some] <;> rfl) | (simp [*, errW_none, errW_some] <;> rfl), by repeat (first | (with_reducible first | exact HB.out | apply below_alloc | apply pw_below_drewN | apply below_drew1) | exact HB.out)⟩
   ·
    rw [if_neg c7] at H
    exact absurd H (by simp)
  ·
   rw [if_neg c6] at H
   exact absurd H (by simp)
 ·
  replace c4 := Bool.eq_false_iff.mpr c4
  subst c4
  have H1 : (some (⟨#[]⟩ : ByteArray)) = some r := by rw [if_neg (show ¬ (false = true) by decide)] at H; exact H
  clear H
  have H := H1
  clear H1
  obtain rfl := Option.some.inj H
  go_enter Tryz.func45, Tryz.ntmps45
  go_wp2_with (first | ((with_reducible refine gate_callee (f := 44) rfl ?_); refine goesL_ (some 6) rfl rfl Tryz.func44 (by kernel_rfl) rfl #[.int .i64 a0] rfl (by (try simp only [List.map_toArray, List.map_cons, List.map_nil]); first | done | rfl | (simp only [List.length_drop, List.length_take]; rfl)) ?_; (with_reducible refine (paymasterref07_MayWidth.calls a0 false _ A3.out).mono ?_); rintro e w' ⟨rfl, ⟨nd, rfl⟩⟩; refine ⟨_, rfl, ?_⟩))
  go_ret
  exact ⟨by first | rfl | (simp [errW_none, errW_some] <;> rfl) | (simp [*, errW_none, errW_some] <;> rfl), by repeat (first | (with_reducible first | exact HB.out | apply below_alloc | apply pw_below_drewN | apply below_drew1) | exact HB.out)⟩
def paymasterref14_Join.j0 : Nat → Int → Bool → ByteArray → Int → Int → ByteArray → Int → Int → Option (ByteArray × Int × Int × Int)
 | 0, _, _, _, _, _, _, _, _ => none
 | k + 1, x0, x19, x157000, x157001, x157002, x158000, x158001, x158002 => if x19 = true then (some ((⟨#[]⟩ : ByteArray), 0, 0, 70)) else ((paymasterref01_Add.f k x157001 x157002 x158001 x158002).bind fun bt161 => (if bt161.2.2 = 0 then ((paymasterref07_NodeText.f k x157000 x157001 x157002 x158000 x158001 x158002).bind fun t165 => ((paymasterref07_Digest.f x0 t165).bind fun t166 => (some (t166, bt161.1, bt161.2.1, 0)))) else (some ((⟨#[]⟩ : ByteArray), 0, 0, 10))))
def paymasterref14_Join.f (k : Nat) (a0 : Int) (a1_0 : ByteArray) (a1_1 : Int) (a1_2 : Int) (a2_0 : ByteArray) (a2_1 : Int) (a2_2 : Int) : Option (ByteArray × Int × Int × Int) := (paymasterref14_Of.f a0 a1_0 a1_1 a1_2).bind fun t159 => (if t159 = true then ((paymasterref14_Of.f a0 a2_0 a2_1 a2_2).bind fun t160 => (paymasterref14_Join.j0 k a0 (!t160) a1_0 a1_1 a1_2 a2_0 a2_1 a2_2)) else (paymasterref14_Join.j0 k a0 true a1_0 a1_1 a1_2 a2_0 a2_1 a2_2))
def paymasterref14_Join.T6 : Bool × List (List Nat × List Nat) := (true, [([], []), ([], []), ([], []), ([1, 2], [1, 2]), ([0, 3, 3], [0, 3]), ([], []), ([4, 5], [4, 5]), ([6, 4, 0, 1, 2, 3, 4, 5, 6], [6]), ([7, 0, 1, 2, 3, 4, 5, 6, 7], [])])
def paymasterref14_Join.B6 : List Nat := [0, 0, 0, 6, 15, 0, 63, 127, 255]
theorem paymasterref14_Join.tab6 : rtab .any (opsOf Tryz.f43 6) = paymasterref14_Join.T6 := by kernel_rfl
theorem paymasterref14_Join.bits6 : waitsOk paymasterref14_Join.T6.2 paymasterref14_Join.B6 = true := by kernel_rfl
set_option maxHeartbeats 8000000 in
set_option maxRecDepth 100000 in
theorem paymasterref14_Join.calls (k : Nat) (a0 : Int) (a1_0 : ByteArray) (a1_1 : Int) (a1_2 : Int) (a2_0 : ByteArray) (a2_1 : Int) (a2_2 : Int) (r1 : ByteArray) (r2 : Int) (r3 : Int) (r4 : Int) (w : World) (h : paymasterref14_Join.f k a0 a1_0 a1_1 a1_2 a2_0 a2_1 a2_2 = some (r1, r2, r3, r4)) :
  Calls Tryz.prog 43 #[.int .i64 a0, .agg #[.string a1_0, .int .u64 a1_1, .int .u64 a1_2], .agg #[.string a2_0, .int .u64 a2_1, .int .u64 a2_2]] w fun e w' => e = .returned (.tuple #[.agg #[.string r1, .int .u64 r2, .int .u64 r3], .int .i64 r4]) ∧ Below w.heap.size w w' := by
 have hu67 := Tryz.underlying67
 have hu24 := Tryz.underlying24
 have HB := aM' (Below.refl w.heap.size w)
 have H : ((paymasterref14_Of.f a0 a1_0 a1_1 a1_2).bind fun t159 => (if t159 = true then ((paymasterref14_Of.f a0 a2_0 a2_1 a2_2).bind fun t160 => (paymasterref14_Join.j0 k a0 (!t160) a1_0 a1_1 a1_2 a2_0 a2_1 a2_2)) else (paymasterref14_Join.j0 k a0 true a1_0 a1_1 a1_2 a2_0 a2_1 a2_2))) = some (r1, r2, r3, r4) := h
 clear h
 have HC4 := aM' H
 clear H
 go_enter Tryz.func43, Tryz.ntmps43
 go_upto_region 1 with (first | ((with_reducible refine gate_dst (N := 4) rfl ?_); refine box_event ?hg (N := 4) ?hd (cs := #[.string a1_0, .int .u64 a1_1, .int .u64 a1_2]) (t := 67) ?hr ?_; (case hd => rfl); (case hg => rfl); (case hr => first | (go_simp; done) | (go_simp; rfl)); intro gb156 hg w5 hbox hb; have n0_ := aM' (below_step (by repeat (first | (with_reducible first | exact HB.out | apply below_alloc | apply pw_below_drewN | apply below_drew1) | exact HB.out)) hb); have n1_ := aM' (hbox); have n2_ := aM' ((by rw [hg]; exact (below_size (by repeat (first | (with_reducible first | exact HB.out | apply below_alloc | apply pw_below_drewN | apply below_drew1) | exact HB.out))) : w.heap.size ≤ gb156)); have n3_ := aM' ((by rw [hg]; exact (below_size (by repeat (first | (with_reducible first | exact HB.out | apply below_alloc | apply pw_below_drewN | apply below_drew1) | exact HB.out))) : w.heap.size ≤ gb156)); clear HB; have HB := n0_; have BK156 := n1_; have GW156 := n2_; have GE156 := n3_; clear n0_ n1_ n2_ n3_; clear hb hbox hg) | ((with_reducible refine gate_dst (N := 5) rfl ?_); refine box_event ?hg (N := 5) ?hd (cs := #[.string a2_0, .int .u64 a2_1, .int .u64 a2_2]) (t := 67) ?hr ?_; (case hd => rfl); (case hg => rfl); (case hr => first | (go_simp; done) | (go_simp; rfl)); intro gb157 hg w6 hbox hb; have n0_ := aM' (blk_below (g := gb156) (o := .cells #[.string a1_0, .int .u64 a1_1, .int .u64 a1_2] 67 (0, 0)) (by (with_reducible repeat (first | refine blk_drewN ?_ _ | refine blk_drew ?_ | refine blk_alloc ?_ _)); exact BK156.out) hb); have n1_ := aM' (below_step (by repeat (first | (with_reducible first | exact HB.out | apply below_alloc | apply pw_below_drewN | apply below_drew1 | refine below_set ?_ GE156.out) | exact HB.out)) hb); have n2_ := aM' (hbox); have n3_ := aM' ((by rw [hg]; exact (below_size (by repeat (first | (with_reducible first | exact HB.out | apply below_alloc | apply pw_below_drewN | apply below_drew1 | refine below_set ?_ GE156.out) | exact HB.out))) : w.heap.size ≤ gb157)); have n4_ := aM' ((by rw [hg]; exact (below_size (by repeat (first | (with_reducible first | exact HB.out | apply below_alloc | apply pw_below_drewN | apply below_drew1 | refine below_set ?_ GE156.out) | exact HB.out))) : w.heap.size ≤ gb157)); have n5_ := aM' ((by rw [hg]; exact Nat.ne_of_lt (blk_lt (g := gb156) (o := .cells #[.string a1_0, .int .u64 a1_1, .int .u64 a1_2] 67 (0, 0)) (by (with_reducible repeat (first | refine blk_drewN ?_ _ | refine blk_drew ?_ | refine blk_alloc ?_ _)); exact BK156.out)) : gb156 ≠ gb157)); have n6_ := aM' ((by rw [hg]; exact Nat.ne_of_gt (blk_lt (g := gb156) (o := .cells #[.string a1_0, .int .u64 a1_1, .int .u64 a1_2] 67 (0, 0)) (by (with_reducible repeat (first | refine blk_drewN ?_ _ | refine blk_drew ?_ | refine blk_alloc ?_ _)); exact BK156.out)) : gb157 ≠ gb156)); clear BK156; clear HB; have BK156 := n0_; have HB := n1_; have BK157 := n2_; have GW157 := n3_; have GE157 := n4_; have NB156_157 := n5_; have NB157_156 := n6_; clear n0_ n1_ n2_ n3_ n4_ n5_ n6_; clear hb hbox hg) | ((with_reducible refine gate_dst (N := 6) rfl ?_); refine box_event ?hg (N := 6) ?hd (cs := #[.string (⟨#[]⟩ : ByteArray), .int .u64 0, .int .u64 0]) (t := 67) ?hr ?_; (case hd => rfl); (case hg => rfl); (case hr => first | (go_simp; done) | (go_simp; rfl)); intro gb158 hg w7 hbox hb; have n0_ := aM' (blk_below (g := gb156) (o := .cells #[.string a1_0, .int .u64 a1_1, .int .u64 a1_2] 67 (0, 0)) (by (with_reducible repeat (first | refine blk_drewN ?_ _ | refine blk_drew ?_ | refine blk_alloc ?_ _)); exact BK156.out) hb); have n1_ := aM' (blk_below (g := gb157) (o := .cells #[.string a2_0, .int .u64 a2_1, .int .u64 a2_2] 67 (0, 0)) (by (with_reducible repeat (first | refine blk_drewN ?_ _ | refine blk_drew ?_ | refine blk_alloc ?_ _)); exact BK157.out) hb); have n2_ := aM' (below_step (by repeat (first | (with_reducible first | exact HB.out | apply below_alloc | apply pw_below_drewN | apply below_drew1 | refine below_set ?_ GE156.out | refine below_set ?_ GE157.out) | exact HB.out)) hb); have n3_ := aM' (hbox); have n4_ := aM' ((by rw [hg]; exact (below_size (by repeat (first | (with_reducible first | exact HB.out | apply below_alloc | apply pw_below_drewN | apply below_drew1 | refine below_set ?_ GE156.out | refine below_set ?_ GE157.out) | exact HB.out))) : w.heap.size ≤ gb158)); have n5_ := aM' ((by rw [hg]; exact (below_size (by repeat (first | (with_reducible first | exact HB.out | apply below_alloc | apply pw_below_drewN | apply below_drew1 | refine below_set ?_ GE156.out | refine below_set ?_ GE157.out) | exact HB.out))) : w.heap.size ≤ gb158)); have n6_ := aM' ((by rw [hg]; exact Nat.ne_of_lt (blk_lt (g := gb156) (o := .cells #[.string a1_0, .int .u64 a1_1, .int .u64 a1_2] 67 (0, 0)) (by (with_reducible repeat (first | refine blk_drewN ?_ _ | refine blk_drew ?_ | refine blk_alloc ?_ _)); exact BK156.out)) : gb156 ≠ gb158)); have n7_ := aM' ((by rw [hg]; exact Nat.ne_of_gt (blk_lt (g := gb156) (o := .cells #[.string a1_0, .int .u64 a1_1, .int .u64 a1_2] 67 (0, 0)) (by (with_reducible repeat (first | refine blk_drewN ?_ _ | refine blk_drew ?_ | refine blk_alloc ?_ _)); exact BK156.out)) : gb158 ≠ gb156)); have n8_ := aM' ((by rw [hg]; exact Nat.ne_of_lt (blk_lt (g := gb157) (o := .cells #[.string a2_0, .int .u64 a2_1, .int .u64 a2_2] 67 (0, 0)) (by (with_reducible repeat (first | refine blk_drewN ?_ _ | refine blk_drew ?_ | refine blk_alloc ?_ _)); exact BK157.out)) : gb157 ≠ gb158)); have n9_ := aM' ((by rw [hg]; exact Nat.ne_of_gt (blk_lt (g := gb157) (o := .cells #[.string a2_0, .int .u64 a2_1, .int .u64 a2_2] 67 (0, 0)) (by (with_reducible repeat (first | refine blk_drewN ?_ _ | refine blk_drew ?_ | refine blk_alloc ?_ _)); exact BK157.out)) : gb158 ≠ gb157)); clear BK156; clear BK157; clear HB; have BK156 := n0_; have BK157 := n1_; have HB := n2_; have BK158 := n3_; have GW158 := n4_; have GE158 := n5_; have NB156_158 := n6_; have NB158_156 := n7_; have NB157_158 := n8_; have NB158_157 := n9_; clear n0_ n1_ n2_ n3_ n4_ n5_ n6_ n7_ n8_ n9_; clear hb hbox hg))
 (try simp only [Act.put, List.setIfInBounds_toArray, List.set_cons_zero, List.set_cons_succ])
 go_cut [19] (fun v19 wc => ∃ (kq : Nat) (x19_3 : Bool), v19 = .bool x19_3 ∧ Aside0 (paymasterref14_Join.j0 kq a0 x19_3 a1_0 a1_1 a1_2 a2_0 a2_1 a2_2 = some (r1, r2, r3, r4)) ∧ Aside0 (kq ≤ k) ∧ Aside0 (wc.heap[gb156]? = some (.cells #[.string a1_0, .int .u64 a1_1, .int .u64 a1_2] 67 (0, 0))) ∧ Aside0 (wc.heap[gb157]? = some (.cells #[.string a2_0, .int .u64 a2_1, .int .u64 a2_2] 67 (0, 0))) ∧ Aside0 (wc.heap[gb158]? = some (.cells #[.string (⟨#[]⟩ : ByteArray), .int .u64 0, .int .u64 0] 67 (0, 0))) ∧ Aside0 (Below w.heap.size w wc))
 case first =>
  have H := HC4.out
  clear HC4
  replace H := Option.bind_eq_some_iff.mp H
  obtain ⟨t159, A80, H⟩ := H
  replace H : (if t159 = true then ((paymasterref14_Of.f a0 a2_0 a2_1 a2_2).bind fun t160 => (paymasterref14_Join.j0 k a0 (!t160) a1_0 a1_1 a1_2 a2_0 a2_1 a2_2)) else (paymasterref14_Join.j0 k a0 true a1_0 a1_1 a1_2 a2_0 a2_1 a2_2)) = some (r1, r2, r3, r4) := H
  have A8 := aM' A80
  clear A80
  by_cases c9 : t159 = true
  ·
   subst c9
   have H1 : ((paymasterref14_Of.f a0 a2_0 a2_1 a2_2).bind fun t160 => (paymasterref14_Join.j0 k a0 (!t160) a1_0 a1_1 a1_2 a2_0 a2_1 a2_2)) = some (r1, r2, r3, r4) := by rw [if_pos rfl] at H; exact H
   clear H
   have H := H1
   clear H1
   replace H := Option.bind_eq_some_iff.mp H
   obtain ⟨t160, A100, H⟩ := H
   replace H : (paymasterref14_Join.j0 k a0 (!t160) a1_0 a1_1 a1_2 a2_0 a2_1 a2_2) = some (r1, r2, r3, r4) := H
   have A10 := aM' A100
   clear A100
   have H' := aM' H
   clear H
   have hnb11 := NB156_157.out
   have hnc11 := NB157_156.out
   have hnb12 := NB156_158.out
   have hnc12 := NB158_156.out
   have hcz13_0 : w7.cell? ⟨gb156, 0, none⟩ = some (.string a1_0) := (blk_cell BK156.out 0).trans rfl
   have hcz13_1 : w7.cell? ⟨gb156, 1, none⟩ = some (.int .u64 a1_1) := (blk_cell BK156.out 1).trans rfl
   have hcz13_2 : w7.cell? ⟨gb156, 2, none⟩ = some (.int .u64 a1_2) := (blk_cell BK156.out 2).trans rfl
   have hfz13_0 := blk_frozen BK156.out 0
   have hfz13_1 := blk_frozen BK156.out 1
   have hfz13_2 := blk_frozen BK156.out 2
   go_wp2_with (first | ((with_reducible refine gate_callee (f := 29) rfl ?_); refine goesL_ (some 12) rfl rfl Tryz.func29 (by kernel_rfl) rfl #[.int .i64 a0, .agg #[.string a1_0, .int .u64 a1_1, .int .u64 a1_2]] rfl (by (try simp only [List.map_toArray, List.map_cons, List.map_nil]); first | done | rfl | (simp only [List.length_drop, List.length_take]; rfl)) ?_; (with_reducible refine (paymasterref14_Of.calls a0 a1_0 a1_1 a1_2 true _ A8.out).mono ?_); rintro e w14 ⟨rfl, hb⟩; refine ⟨_, rfl, ?_⟩; have n0_ := aM' (blk_below (g := gb156) (o := .cells #[.string a1_0, .int .u64 a1_1, .int .u64 a1_2] 67 (0, 0)) (by (with_reducible repeat (first | refine blk_drewN ?_ _ | refine blk_drew ?_ | refine blk_alloc ?_ _)); exact BK156.out) hb); have n1_ := aM' (blk_below (g := gb157) (o := .cells #[.string a2_0, .int .u64 a2_1, .int .u64 a2_2] 67 (0, 0)) (by (with_reducible repeat (first | refine blk_drewN ?_ _ | refine blk_drew ?_ | refine blk_alloc ?_ _)); exact BK157.out) hb); have n2_ := aM' (blk_below (g := gb158) (o := .cells #[.string (⟨#[]⟩ : ByteArray), .int .u64 0, .int .u64 0] 67 (0, 0)) (by (with_reducible repeat (first | refine blk_drewN ?_ _ | refine blk_drew ?_ | refine blk_alloc ?_ _)); exact BK158.out) hb); have n3_ := aM' (below_step (by repeat (first | (with_reducible first | exact HB.out | apply below_alloc | apply pw_below_drewN | apply below_drew1 | refine below_set ?_ GE156.out | refine below_set ?_ GE157.out | refine below_set ?_ GE158.out) | exact HB.out)) hb); clear BK156; clear BK157; clear BK158; clear HB; have BK156 := n0_; have BK157 := n1_; have BK158 := n2_; have HB := n3_; clear n0_ n1_ n2_ n3_; (try clear hb); (try clear hb2); (try clear hk); (try clear hi); have hnb15 := NB157_158.out; have hnc15 := NB158_157.out; have hcz16_0 : w14.cell? ⟨gb157, 0, none⟩ = some (.string a2_0) := (blk_cell BK157.out 0).trans rfl; have hcz16_1 : w14.cell? ⟨gb157, 1, none⟩ = some (.int .u64 a2_1) := (blk_cell BK157.out 1).trans rfl; have hcz16_2 : w14.cell? ⟨gb157, 2, none⟩ = some (.int .u64 a2_2) := (blk_cell BK157.out 2).trans rfl; have hfz16_0 := blk_frozen BK157.out 0; have hfz16_1 := blk_frozen BK157.out 1; have hfz16_2 := blk_frozen BK157.out 2) | (go_at_call 29; (with_reducible refine (paymasterref14_Of.calls a0 a2_0 a2_1 a2_2 t160 _ A10.out).mono ?_); rintro e w17 ⟨rfl, hb⟩; have n0_ := aM' (blk_below (g := gb156) (o := .cells #[.string a1_0, .int .u64 a1_1, .int .u64 a1_2] 67 (0, 0)) (by (with_reducible repeat (first | refine blk_drewN ?_ _ | refine blk_drew ?_ | refine blk_alloc ?_ _)); exact BK156.out) hb); have n1_ := aM' (blk_below (g := gb157) (o := .cells #[.string a2_0, .int .u64 a2_1, .int .u64 a2_2] 67 (0, 0)) (by (with_reducible repeat (first | refine blk_drewN ?_ _ | refine blk_drew ?_ | refine blk_alloc ?_ _)); exact BK157.out) hb); have n2_ := aM' (blk_below (g := gb158) (o := .cells #[.string (⟨#[]⟩ : ByteArray), .int .u64 0, .int .u64 0] 67 (0, 0)) (by (with_reducible repeat (first | refine blk_drewN ?_ _ | refine blk_drew ?_ | refine blk_alloc ?_ _)); exact BK158.out) hb); have n3_ := aM' (below_step (by repeat (first | (with_reducible first | exact HB.out | apply below_alloc | apply pw_below_drewN | apply below_drew1 | refine below_set ?_ GE156.out | refine below_set ?_ GE157.out | refine below_set ?_ GE158.out) | exact HB.out)) hb); clear BK156; clear BK157; clear BK158; clear HB; have BK156 := n0_; have BK157 := n1_; have BK158 := n2_; have HB := n3_; clear n0_ n1_ n2_ n3_; (try clear hb); (try clear hb2); (try clear hk); (try clear hi)))
   go_meet
   case rel => exact ⟨_, (!t160), (by first | rfl | (simp; done) | (simp [*]; done)), H', ⟨by first | omega | exact Nat.le_refl _⟩, ⟨by (with_reducible repeat (first | refine blk_drewN ?_ _ | refine blk_drew ?_ | refine blk_alloc ?_ _)); exact BK156.out⟩, ⟨by (with_reducible repeat (first | refine blk_drewN ?_ _ | refine blk_drew ?_ | refine blk_alloc ?_ _)); exact BK157.out⟩, ⟨by (with_reducible repeat (first | refine blk_drewN ?_ _ | refine blk_drew ?_ | refine blk_alloc ?_ _)); exact BK158.out⟩, ⟨by repeat (first | (with_reducible first | exact HB.out | apply below_alloc | apply pw_below_drewN | apply below_drew1 | refine below_set ?_ GE156.out | refine below_set ?_ GE157.out | refine below_set ?_ GE158.out) | exact HB.out)⟩⟩
  ·
   replace c9 := Bool.eq_false_iff.mpr c9
   subst c9
   have H1 : (paymasterref14_Join.j0 k a0 true a1_0 a1_1 a1_2 a2_0 a2_1 a2_2) = some (r1, r2, r3, r4) := by rw [if_neg (show ¬ (false = true) by decide)] at H; exact H
   clear H
   have H := H1
   clear H1
   have H' := aM' H
   clear H
   have hnb18 := NB156_157.out
   have hnc18 := NB157_156.out
   have hnb19 := NB156_158.out
   have hnc19 := NB158_156.out
   have hcz20_0 : w7.cell? ⟨gb156, 0, none⟩ = some (.string a1_0) := (blk_cell BK156.out 0).trans rfl
   have hcz20_1 : w7.cell? ⟨gb156, 1, none⟩ = some (.int .u64 a1_1) := (blk_cell BK156.out 1).trans rfl
   have hcz20_2 : w7.cell? ⟨gb156, 2, none⟩ = some (.int .u64 a1_2) := (blk_cell BK156.out 2).trans rfl
   have hfz20_0 := blk_frozen BK156.out 0
   have hfz20_1 := blk_frozen BK156.out 1
   have hfz20_2 := blk_frozen BK156.out 2
   go_wp2_with (first | ((with_reducible refine gate_callee (f := 29) rfl ?_); refine goesL_ (some 12) rfl rfl Tryz.func29 (by kernel_rfl) rfl #[.int .i64 a0, .agg #[.string a1_0, .int .u64 a1_1, .int .u64 a1_2]] rfl (by (try simp only [List.map_toArray, List.map_cons, List.map_nil]); first | done | rfl | (simp only [List.length_drop, List.length_take]; rfl)) ?_; (with_reducible refine (paymasterref14_Of.calls a0 a1_0 a1_1 a1_2 false _ A8.out).mono ?_); rintro e w21 ⟨rfl, hb⟩; refine ⟨_, rfl, ?_⟩; have n0_ := aM' (blk_below (g := gb156) (o := .cells #[.string a1_0, .int .u64 a1_1, .int .u64 a1_2] 67 (0, 0)) (by (with_reducible repeat (first | refine blk_drewN ?_ _ | refine blk_drew ?_ | refine blk_alloc ?_ _)); exact BK156.out) hb); have n1_ := aM' (blk_below (g := gb157) (o := .cells #[.string a2_0, .int .u64 a2_1, .int .u64 a2_2] 67 (0, 0)) (by (with_reducible repeat (first | refine blk_drewN ?_ _ | refine blk_drew ?_ | refine blk_alloc ?_ _)); exact BK157.out) hb); have n2_ := aM' (blk_below (g := gb158) (o := .cells #[.string (⟨#[]⟩ : ByteArray), .int .u64 0, .int .u64 0] 67 (0, 0)) (by (with_reducible repeat (first | refine blk_drewN ?_ _ | refine blk_drew ?_ | refine blk_alloc ?_ _)); exact BK158.out) hb); have n3_ := aM' (below_step (by repeat (first | (with_reducible first | exact HB.out | apply below_alloc | apply pw_below_drewN | apply below_drew1 | refine below_set ?_ GE156.out | refine below_set ?_ GE157.out | refine below_set ?_ GE158.out) | exact HB.out)) hb); clear BK156; clear BK157; clear BK158; clear HB; have BK156 := n0_; have BK157 := n1_; have BK158 := n2_; have HB := n3_; clear n0_ n1_ n2_ n3_; (try clear hb); (try clear hb2); (try clear hk); (try clear hi)))
   go_meet
   case rel => exact ⟨_, (true), (by first | rfl | (simp; done) | (simp [*]; done)), H', ⟨by first | omega | exact Nat.le_refl _⟩, ⟨by (with_reducible repeat (first | refine blk_drewN ?_ _ | refine blk_drew ?_ | refine blk_alloc ?_ _)); exact BK156.out⟩, ⟨by (with_reducible repeat (first | refine blk_drewN ?_ _ | refine blk_drew ?_ | refine blk_alloc ?_ _)); exact BK157.out⟩, ⟨by (with_reducible repeat (first | refine blk_drewN ?_ _ | refine blk_drew ?_ | refine blk_alloc ?_ _)); exact BK158.out⟩, ⟨by repeat (first | (with_reducible first | exact HB.out | apply below_alloc | apply pw_below_drewN | apply below_drew1 | refine below_set ?_ GE156.out | refine below_set ?_ GE157.out | refine below_set ?_ GE158.out) | exact HB.out)⟩⟩
 case rest =>
  clear HC4
  try clear c1
  try clear c2
  try clear p2
  try clear c4
  try clear c9
  try clear c11
  try clear c12
  try clear c15
  try clear c18
  try clear c19
  try clear hcz13_0
  try clear hcz13_1
  try clear hcz13_2
  try clear hcz16_0
  try clear hcz16_1
  try clear hcz16_2
  try clear hcz20_0
  try clear hcz20_1
  try clear hcz20_2
  try clear hfz13_0
  try clear hfz13_1
  try clear hfz13_2
  try clear hfz16_0
  try clear hfz16_1
  try clear hfz16_2
  try clear hfz20_0
  try clear hfz20_1
  try clear hfz20_2
  obtain ⟨kq, x19_3, rfl, HA, HJ3, BK156, BK157, BK158, HB⟩ := hcut
  cases kq with
  | zero => exact absurd HA.out (by simp [paymasterref14_Join.j0])
  | succ kj3 =>
   have H := HA.out
   clear HA
   simp only [paymasterref14_Join.j0] at H
   by_cases c22 : x19_3 = true
   ·
    subst c22
    have H1 : (some ((⟨#[]⟩ : ByteArray), 0, 0, 70)) = some (r1, r2, r3, r4) := by rw [if_pos rfl] at H; exact H
    clear H
    have H := H1
    clear H1
    simp only [Option.some.injEq, Prod.mk.injEq] at H
    obtain ⟨rfl, rfl, rfl, rfl⟩ := H
    have hnb23 := NB158_156.out
    have hnc23 := NB156_158.out
    have hnb24 := NB158_157.out
    have hnc24 := NB157_158.out
    have hcz25_0 : wc.cell? ⟨gb158, 0, none⟩ = some (.string (⟨#[]⟩ : ByteArray)) := (blk_cell BK158.out 0).trans rfl
    have hcz25_1 : wc.cell? ⟨gb158, 1, none⟩ = some (.int .u64 0) := (blk_cell BK158.out 1).trans rfl
    have hcz25_2 : wc.cell? ⟨gb158, 2, none⟩ = some (.int .u64 0) := (blk_cell BK158.out 2).trans rfl
    have hfz25_0 := blk_frozen BK158.out 0
    have hfz25_1 := blk_frozen BK158.out 1
    have hfz25_2 := blk_frozen BK158.out 2
    go_wp2
    refine bodyPost_ret (results_ct rfl _ _ gb158 67 #[.string (⟨#[]⟩ : ByteArray), .int .u64 0, .int .u64 0] (0, 0) _ rfl (by (with_reducible repeat (first | refine blk_drewN ?_ _ | refine blk_drew ?_ | refine blk_alloc ?_ _)); refine blk_put (cs := #[.string (⟨#[]⟩ : ByteArray), .int .u64 0, .int .u64 0]) ?_ 2 _ rfl; (with_reducible repeat (first | refine blk_drewN ?_ _ | refine blk_drew ?_ | refine blk_alloc ?_ _)); refine blk_put (cs := #[.string (⟨#[]⟩ : ByteArray), .int .u64 0, .int .u64 0]) ?_ 1 _ rfl; (with_reducible repeat (first | refine blk_drewN ?_ _ | refine blk_drew ?_ | refine blk_alloc ?_ _)); refine blk_put (cs := #[.string (⟨#[]⟩ : ByteArray), .int .u64 0, .int .u64 0]) ?_ 0 _ rfl; (with_reducible repeat (first | refine blk_drewN ?_ _ | refine blk_drew ?_ | refine blk_alloc ?_ _)); exact BK158.out) Tryz.underlying67 rfl (by kernel_rfl)) rfl ?_
    exact ⟨by first | rfl | (simp [errW_none, errW_some] <;> rfl) | (simp [*, errW_none, errW_some] <;> rfl), by repeat (first | (with_reducible first | exact HB.out | apply below_alloc | apply pw_below_drewN | apply below_drew1 | refine below_set ?_ GE156.out | refine below_set ?_ GE157.out | refine below_set ?_ GE158.out) | exact HB.out)⟩
   ·
    replace c22 := Bool.eq_false_iff.mpr c22
    subst c22
    have H1 : ((paymasterref01_Add.f kj3 a1_1 a1_2 a2_1 a2_2).bind fun bt161 => (if bt161.2.2 = 0 then ((paymasterref07_NodeText.f kj3 a1_0 a1_1 a1_2 a2_0 a2_1 a2_2).bind fun t165 => ((paymasterref07_Digest.f a0 t165).bind fun t166 => (some (t166, bt161.1, bt161.2.1, 0)))) else (some ((⟨#[]⟩ : ByteArray), 0, 0, 10)))) = some (r1, r2, r3, r4) := by rw [if_neg (show ¬ (false = true) by decide)] at H; exact H
    clear H
    have H := H1
    clear H1
    replace H := Option.bind_eq_some_iff.mp H
    obtain ⟨⟨t161, t162, t163⟩, A260, H⟩ := H
    replace H : (if t163 = 0 then ((paymasterref07_NodeText.f kj3 a1_0 a1_1 a1_2 a2_0 a2_1 a2_2).bind fun t165 => ((paymasterref07_Digest.f a0 t165).bind fun t166 => (some (t166, t161, t162, 0)))) else (some ((⟨#[]⟩ : ByteArray), 0, 0, 10))) = some (r1, r2, r3, r4) := H
    have A26 := aM' A260
    clear A260
    by_cases c27 : t163 = 0
    ·
     rw [if_pos c27] at H
     have c27b0 : (t163 == 0) = true := beq_iff_eq.mpr c27
     have c27b1 : (t163 != 0) = false := bne_eq_false_iff_eq.mpr c27
     clear c27
     replace H := Option.bind_eq_some_iff.mp H
     obtain ⟨t165, A280, H⟩ := H
     replace H : ((paymasterref07_Digest.f a0 t165).bind fun t166 => (some (t166, t161, t162, 0))) = some (r1, r2, r3, r4) := H
     have A28 := aM' A280
     clear A280
     replace H := Option.bind_eq_some_iff.mp H
     obtain ⟨t166, A290, H⟩ := H
     replace H : (some (t166, t161, t162, 0)) = some (r1, r2, r3, r4) := H
     have A29 := aM' A290
     clear A290
     simp only [Option.some.injEq, Prod.mk.injEq] at H
     obtain ⟨rfl, rfl, rfl, rfl⟩ := H
     have hnb30 := NB156_157.out
     have hnc30 := NB157_156.out
     have hnb31 := NB156_158.out
     have hnc31 := NB158_156.out
     have hcz32_0 : wc.cell? ⟨gb156, 0, none⟩ = some (.string a1_0) := (blk_cell BK156.out 0).trans rfl
     have hcz32_1 : wc.cell? ⟨gb156, 1, none⟩ = some (.int .u64 a1_1) := (blk_cell BK156.out 1).trans rfl
     have hcz32_2 : wc.cell? ⟨gb156, 2, none⟩ = some (.int .u64 a1_2) := (blk_cell BK156.out 2).trans rfl
     have hfz32_0 := blk_frozen BK156.out 0
     have hfz32_1 := blk_frozen BK156.out 1
     have hfz32_2 := blk_frozen BK156.out 2
     have hnb33 := NB157_158.out
     have hnc33 := NB158_157.out
     have hcz34_0 : wc.cell? ⟨gb157, 0, none⟩ = some (.string a2_0) := (blk_cell BK157.out 0).trans rfl
     have hcz34_1 : wc.cell? ⟨gb157, 1, none⟩ = some (.int .u64 a2_1) := (blk_cell BK157.out 1).trans rfl
     have hcz34_2 : wc.cell? ⟨gb157, 2, none⟩ = some (.int .u64 a2_2) := (blk_cell BK157.out 2).trans rfl
     have hfz34_0 := blk_frozen BK157.out 0
     have hfz34_1 := blk_frozen BK157.out 1
     have hfz34_2 := blk_frozen BK157.out 2
     try go_wp2_with (first | ((with_reducible refine gate_callee (f := 58) rfl ?_); refine goesL_ (some 26) rfl rfl Tryz.func58 (by kernel_rfl) rfl #[.agg #[.int .u64 a1_1, .int .u64 a1_2], .agg #[.int .u64 a2_1, .int .u64 a2_2]] rfl (by (try simp only [List.map_toArray, List.map_cons, List.map_nil]); first | done | rfl | (simp only [List.length_drop, List.length_take]; rfl)) ?_; (with_reducible refine (paymasterref01_Add.calls kj3 a1_1 a1_2 a2_1 a2_2 t161 t162 t163 _ A26.out).mono ?_); rintro e w35 ⟨rfl, hb⟩; refine ⟨_, rfl, ?_⟩; have n0_ := aM' (blk_below (g := gb156) (o := .cells #[.string a1_0, .int .u64 a1_1, .int .u64 a1_2] 67 (0, 0)) (by (with_reducible repeat (first | refine blk_drewN ?_ _ | refine blk_drew ?_ | refine blk_alloc ?_ _)); exact BK156.out) hb); have n1_ := aM' (blk_below (g := gb157) (o := .cells #[.string a2_0, .int .u64 a2_1, .int .u64 a2_2] 67 (0, 0)) (by (with_reducible repeat (first | refine blk_drewN ?_ _ | refine blk_drew ?_ | refine blk_alloc ?_ _)); exact BK157.out) hb); have n2_ := aM' (blk_below (g := gb158) (o := .cells #[.string (⟨#[]⟩ : ByteArray), .int .u64 0, .int .u64 0] 67 (0, 0)) (by (with_reducible repeat (first | refine blk_drewN ?_ _ | refine blk_drew ?_ | refine blk_alloc ?_ _)); exact BK158.out) hb); have n3_ := aM' (below_step (by repeat (first | (with_reducible first | exact HB.out | apply below_alloc | apply pw_below_drewN | apply below_drew1 | refine below_set ?_ GE156.out | refine below_set ?_ GE157.out | refine below_set ?_ GE158.out) | exact HB.out)) hb); clear BK156; clear BK157; clear BK158; clear HB; have BK156 := n0_; have BK157 := n1_; have BK158 := n2_; have HB := n3_; clear n0_ n1_ n2_ n3_; (try clear hb); (try clear hb2); (try clear hk); (try clear hi)) | ((with_reducible refine gate_dst (N := 8) rfl ?_); refine box_event ?hg (N := 8) ?hd (cs := #[.int .u64 0, .int .u64 0]) (t := 24) ?hr ?_; (case hd => rfl); (case hg => rfl); (case hr => first | (go_simp; done) | (go_simp; rfl)); intro gb164 hg w36 hbox hb; have n0_ := aM' (blk_below (g := gb156) (o := .cells #[.string a1_0, .int .u64 a1_1, .int .u64 a1_2] 67 (0, 0)) (by (with_reducible repeat (first | refine blk_drewN ?_ _ | refine blk_drew ?_ | refine blk_alloc ?_ _)); exact BK156.out) hb); have n1_ := aM' (blk_below (g := gb157) (o := .cells #[.string a2_0, .int .u64 a2_1, .int .u64 a2_2] 67 (0, 0)) (by (with_reducible repeat (first | refine blk_drewN ?_ _ | refine blk_drew ?_ | refine blk_alloc ?_ _)); exact BK157.out) hb); have n2_ := aM' (blk_below (g := gb158) (o := .cells #[.string (⟨#[]⟩ : ByteArray), .int .u64 0, .int .u64 0] 67 (0, 0)) (by (with_reducible repeat (first | refine blk_drewN ?_ _ | refine blk_drew ?_ | refine blk_alloc ?_ _)); exact BK158.out) hb); have n3_ := aM' (below_step (by repeat (first | (with_reducible first | exact HB.out | apply below_alloc | apply pw_below_drewN | apply below_drew1 | refine below_set ?_ GE156.out | refine below_set ?_ GE157.out | refine below_set ?_ GE158.out) | exact HB.out)) hb); have n4_ := aM' (hbox); have n5_ := aM' ((by rw [hg]; exact (below_size (by repeat (first | (with_reducible first | exact HB.out | apply below_alloc | apply pw_below_drewN | apply below_drew1 | refine below_set ?_ GE156.out | refine below_set ?_ GE157.out | refine below_set ?_ GE158.out) | exact HB.out))) : w.heap.size ≤ gb164)); have n6_ := aM' ((by rw [hg]; exact (below_size (by repeat (first | (with_reducible first | exact HB.out | apply below_alloc | apply pw_below_drewN | apply below_drew1 | refine below_set ?_ GE156.out | refine below_set ?_ GE157.out | refine below_set ?_ GE158.out) | exact HB.out))) : w.heap.size ≤ gb164)); have n7_ := aM' ((by rw [hg]; exact Nat.ne_of_lt (blk_lt (g := gb156) (o := .cells #[.string a1_0, .int .u64 a1_1, .int .u64 a1_2] 67 (0, 0)) (by (with_reducible repeat (first | refine blk_drewN ?_ _ | refine blk_drew ?_ | refine blk_alloc ?_ _)); exact BK156.out)) : gb156 ≠ gb164)); have n8_ := aM' ((by rw [hg]; exact Nat.ne_of_gt (blk_lt (g := gb156) (o := .cells #[.string a1_0, .int .u64 a1_1, .int .u64 a1_2] 67 (0, 0)) (by (with_reducible repeat (first | refine blk_drewN ?_ _ | refine blk_drew ?_ | refine blk_alloc ?_ _)); exact BK156.out)) : gb164 ≠ gb156)); have n9_ := aM' ((by rw [hg]; exact Nat.ne_of_lt (blk_lt (g := gb157) (o := .cells #[.string a2_0, .int .u64 a2_1, .int .u64 a2_2] 67 (0, 0)) (by (with_reducible repeat (first | refine blk_drewN ?_ _ | refine blk_drew ?_ | refine blk_alloc ?_ _)); exact BK157.out)) : gb157 ≠ gb164)); have n10_ := aM' ((by rw [hg]; exact Nat.ne_of_gt (blk_lt (g := gb157) (o := .cells #[.string a2_0, .int .u64 a2_1, .int .u64 a2_2] 67 (0, 0)) (by (with_reducible repeat (first | refine blk_drewN ?_ _ | refine blk_drew ?_ | refine blk_alloc ?_ _)); exact BK157.out)) : gb164 ≠ gb157)); have n11_ := aM' ((by rw [hg]; exact Nat.ne_of_lt (blk_lt (g := gb158) (o := .cells #[.string (⟨#[]⟩ : ByteArray), .int .u64 0, .int .u64 0] 67 (0, 0)) (by (with_reducible repeat (first | refine blk_drewN ?_ _ | refine blk_drew ?_ | refine blk_alloc ?_ _)); exact BK158.out)) : gb158 ≠ gb164)); have n12_ := aM' ((by rw [hg]; exact Nat.ne_of_gt (blk_lt (g := gb158) (o := .cells #[.string (⟨#[]⟩ : ByteArray), .int .u64 0, .int .u64 0] 67 (0, 0)) (by (with_reducible repeat (first | refine blk_drewN ?_ _ | refine blk_drew ?_ | refine blk_alloc ?_ _)); exact BK158.out)) : gb164 ≠ gb158)); clear BK156; clear BK157; clear BK158; clear HB; have BK156 := n0_; have BK157 := n1_; have BK158 := n2_; have HB := n3_; have BK164 := n4_; have GW164 := n5_; have GE164 := n6_; have NB156_164 := n7_; have NB164_156 := n8_; have NB157_164 := n9_; have NB164_157 := n10_; have NB158_164 := n11_; have NB164_158 := n12_; clear n0_ n1_ n2_ n3_ n4_ n5_ n6_ n7_ n8_ n9_ n10_ n11_ n12_; clear hb hbox hg; have hnb37 := NB164_156.out; have hnc37 := NB156_164.out; have hnb38 := NB164_157.out; have hnc38 := NB157_164.out; have hnb39 := NB164_158.out; have hnc39 := NB158_164.out; have hcz40_0 : w36.cell? ⟨gb164, 0, none⟩ = some (.int .u64 0) := (blk_cell BK164.out 0).trans rfl; have hcz40_1 : w36.cell? ⟨gb164, 1, none⟩ = some (.int .u64 0) := (blk_cell BK164.out 1).trans rfl; have hfz40_0 := blk_frozen BK164.out 0; have hfz40_1 := blk_frozen BK164.out 1))
     have n0_ : Aside0 (((w36.setCell ⟨gb164, 0, none⟩ (.int .u64 t161)).setCell ⟨gb164, 1, none⟩ (.int .u64 t162)).heap[gb156]? = some (.cells #[.string a1_0, .int .u64 a1_1, .int .u64 a1_2] 67 (0, 0))) := ⟨by (with_reducible repeat (first | refine blk_drewN ?_ _ | refine blk_drew ?_ | refine blk_alloc ?_ _)); refine blk_far ?_ NB156_164.out _; (with_reducible repeat (first | refine blk_drewN ?_ _ | refine blk_drew ?_ | refine blk_alloc ?_ _)); refine blk_far ?_ NB156_164.out _; (with_reducible repeat (first | refine blk_drewN ?_ _ | refine blk_drew ?_ | refine blk_alloc ?_ _)); exact BK156.out⟩
     have n1_ : Aside0 (((w36.setCell ⟨gb164, 0, none⟩ (.int .u64 t161)).setCell ⟨gb164, 1, none⟩ (.int .u64 t162)).heap[gb157]? = some (.cells #[.string a2_0, .int .u64 a2_1, .int .u64 a2_2] 67 (0, 0))) := ⟨by (with_reducible repeat (first | refine blk_drewN ?_ _ | refine blk_drew ?_ | refine blk_alloc ?_ _)); refine blk_far ?_ NB157_164.out _; (with_reducible repeat (first | refine blk_drewN ?_ _ | refine blk_drew ?_ | refine blk_alloc ?_ _)); refine blk_far ?_ NB157_164.out _; (with_reducible repeat (first | refine blk_drewN ?_ _ | refine blk_drew ?_ | refine blk_alloc ?_ _)); exact BK157.out⟩
     have n2_ : Aside0 (((w36.setCell ⟨gb164, 0, none⟩ (.int .u64 t161)).setCell ⟨gb164, 1, none⟩ (.int .u64 t162)).heap[gb158]? = some (.cells #[.string (⟨#[]⟩ : ByteArray), .int .u64 0, .int .u64 0] 67 (0, 0))) := ⟨by (with_reducible repeat (first | refine blk_drewN ?_ _ | refine blk_drew ?_ | refine blk_alloc ?_ _)); refine blk_far ?_ NB158_164.out _; (with_reducible repeat (first | refine blk_drewN ?_ _ | refine blk_drew ?_ | refine blk_alloc ?_ _)); refine blk_far ?_ NB158_164.out _; (with_reducible repeat (first | refine blk_drewN ?_ _ | refine blk_drew ?_ | refine blk_alloc ?_ _)); exact BK158.out⟩
     have n3_ : Aside0 (((w36.setCell ⟨gb164, 0, none⟩ (.int .u64 t161)).setCell ⟨gb164, 1, none⟩ (.int .u64 t162)).heap[gb164]? = some (.cells #[.int .u64 t161, .int .u64 t162] 24 (0, 0))) := ⟨by (with_reducible repeat (first | refine blk_drewN ?_ _ | refine blk_drew ?_ | refine blk_alloc ?_ _)); refine blk_put (cs := #[.int .u64 t161, .int .u64 0]) ?_ 1 _ rfl; (with_reducible repeat (first | refine blk_drewN ?_ _ | refine blk_drew ?_ | refine blk_alloc ?_ _)); refine blk_put (cs := #[.int .u64 0, .int .u64 0]) ?_ 0 _ rfl; (with_reducible repeat (first | refine blk_drewN ?_ _ | refine blk_drew ?_ | refine blk_alloc ?_ _)); exact BK164.out⟩
     have n4_ : Aside0 (Below w.heap.size w ((w36.setCell ⟨gb164, 0, none⟩ (.int .u64 t161)).setCell ⟨gb164, 1, none⟩ (.int .u64 t162))) := ⟨by repeat (first | (with_reducible first | exact HB.out | apply below_alloc | apply pw_below_drewN | apply below_drew1 | refine below_set ?_ GE156.out | refine below_set ?_ GE157.out | refine below_set ?_ GE158.out | refine below_set ?_ GE164.out) | exact HB.out)⟩
     (try clear BK156)
     (try clear BK157)
     (try clear BK158)
     (try clear BK164)
     (try clear HB)
     generalize ((w36.setCell ⟨gb164, 0, none⟩ (.int .u64 t161)).setCell ⟨gb164, 1, none⟩ (.int .u64 t162)) = w41 at n0_ n1_ n2_ n3_ n4_ ⊢
     have BK156 := n0_
     have BK157 := n1_
     have BK158 := n2_
     have BK164 := n3_
     have HB := n4_
     clear n0_ n1_ n2_ n3_ n4_
     have n0_ := aM' (blk_drew BK156.out)
     have n1_ := aM' (blk_drew BK157.out)
     have n2_ := aM' (blk_drew BK158.out)
     have n3_ := aM' (blk_drew BK164.out)
     have n4_ := aM' (below_drew1 HB.out)
     clear BK156
     clear BK157
     clear BK158
     clear BK164
     clear HB
     have BK156 := n0_
     have BK157 := n1_
     have BK158 := n2_
     have BK164 := n3_
     have HB := n4_
     clear n0_ n1_ n2_ n3_ n4_
     refine start_ (n := 9) (S := fun w' => w'.cell? ⟨gb156, 0, none⟩ = some (.string a1_0) ∧ w'.cell? ⟨gb156, 1, none⟩ = some (.int .u64 a1_1) ∧ w'.cell? ⟨gb156, 2, none⟩ = some (.int .u64 a1_2) ∧ w'.cell? ⟨gb157, 0, none⟩ = some (.string a2_0) ∧ w'.cell? ⟨gb157, 1, none⟩ = some (.int .u64 a2_1) ∧ w'.cell? ⟨gb157, 2, none⟩ = some (.int .u64 a2_2) ∧ w'.cell? ⟨gb164, 0, none⟩ = some (.int .u64 t161) ∧ w'.cell? ⟨gb164, 1, none⟩ = some (.int .u64 t162)) (ds := []) #[false, false, false, false, false, false, false, false, false] (by kernel_rfl) rfl rfl ⟨(blk_cell BK156.out 0).trans rfl, (blk_cell BK156.out 1).trans rfl, (blk_cell BK156.out 2).trans rfl, (blk_cell BK157.out 0).trans rfl, (blk_cell BK157.out 1).trans rfl, (blk_cell BK157.out 2).trans rfl, (blk_cell BK164.out 0).trans rfl, (blk_cell BK164.out 1).trans rfl⟩ (fun hHeld => ?_); refine with_tabW paymasterref14_Join.tab6 paymasterref14_Join.bits6 (fun HT_ HW_ => ?_)
     generalize w41.drew = w42 at BK156 BK157 BK158 BK164 HB hHeld ⊢
     refine pure_ (i := 0) (N := some 32) (v := ?_) (a' := ?_) #[true, false, false, false, false, false, false, false, false] rfl rfl (any_of HT_.out (by kernel_rfl)) (fun _ _ _ h => h) (Or.inl ⟨by rfl, ?_⟩) ?_ ?_
     rotate_left
     ·
      intro w'
      go_simp
      with_reducible rfl
     rotate_left
     ·
      simp only [Act.put, List.setIfInBounds_toArray, List.set_cons_zero, List.set_cons_succ, i64_w, i32_w]
      rfl
     refine take_ (i := 1) (N := some 33) (v := ?_) (a' := ?_) #[true, true, false, false, false, false, false, false, false] rfl rfl (take_ofW HT_.out HW_.out (by kernel_rfl)) (fun _ _ _ h => h) (Or.inl ⟨by rfl, ?_⟩) hHeld ?_ ?_
     rotate_left
     ·
      rintro w' ⟨s0, s1, s2, s3, s4, s5, s6, s7⟩
      go_simp
      with_reducible rfl
     rotate_left
     ·
      simp only [Act.put, List.setIfInBounds_toArray, List.set_cons_zero, List.set_cons_succ, i64_w, i32_w]
      rfl
     refine take_ (i := 2) (N := some 34) (v := ?_) (a' := ?_) #[true, true, true, false, false, false, false, false, false] rfl rfl (take_ofW HT_.out HW_.out (by kernel_rfl)) (fun _ _ _ h => h) (Or.inl ⟨by rfl, ?_⟩) hHeld ?_ ?_
     rotate_left
     ·
      rintro w' ⟨s0, s1, s2, s3, s4, s5, s6, s7⟩
      go_simp
      with_reducible rfl
     rotate_left
     ·
      simp only [Act.put, List.setIfInBounds_toArray, List.set_cons_zero, List.set_cons_succ, i64_w, i32_w]
      rfl
     refine take_ (i := 5) (N := some 37) (v := ?_) (a' := ?_) #[true, true, true, false, false, true, false, false, false] rfl rfl (take_ofW HT_.out HW_.out (by kernel_rfl)) (fun _ _ _ h => h) (Or.inl ⟨by rfl, ?_⟩) hHeld ?_ ?_
     rotate_left
     ·
      rintro w' ⟨s0, s1, s2, s3, s4, s5, s6, s7⟩
      go_simp
      with_reducible rfl
     rotate_left
     ·
      simp only [Act.put, List.setIfInBounds_toArray, List.set_cons_zero, List.set_cons_succ, i64_w, i32_w]
      rfl
     refine one_ (i := 3) (N := some 35) #[true, true, true, true, false, true, false, false, false] rfl rfl (one_of HT_.out (by kernel_rfl)) (by decide) (fun K hK => ?_)
     refine goes_ Tryz.func61 (by kernel_rfl) rfl #[.agg #[.string a1_0, .int .u64 a1_1, .int .u64 a1_2], .agg #[.string a2_0, .int .u64 a2_1, .int .u64 a2_2]] (by rfl) rfl rfl (by (try simp only [List.map_toArray, List.map_cons, List.map_nil]); first | done | rfl | (simp only [List.length_drop, List.length_take]; rfl)) ?_
     with_reducible refine (paymasterref07_NodeText.calls kj3 a1_0 a1_1 a1_2 a2_0 a2_1 a2_2 t165 _ A28.out).mono ?_
     rintro e w43 ⟨rfl, hb⟩
     refine ⟨_, rfl, ?_⟩
     have n0_ := aM' (blk_below (g := gb156) (o := .cells #[.string a1_0, .int .u64 a1_1, .int .u64 a1_2] 67 (0, 0)) (by (with_reducible repeat (first | refine blk_drewN ?_ _ | refine blk_drew ?_ | refine blk_alloc ?_ _)); exact BK156.out) hb)
     have n1_ := aM' (blk_below (g := gb157) (o := .cells #[.string a2_0, .int .u64 a2_1, .int .u64 a2_2] 67 (0, 0)) (by (with_reducible repeat (first | refine blk_drewN ?_ _ | refine blk_drew ?_ | refine blk_alloc ?_ _)); exact BK157.out) hb)
     have n2_ := aM' (blk_below (g := gb158) (o := .cells #[.string (⟨#[]⟩ : ByteArray), .int .u64 0, .int .u64 0] 67 (0, 0)) (by (with_reducible repeat (first | refine blk_drewN ?_ _ | refine blk_drew ?_ | refine blk_alloc ?_ _)); exact BK158.out) hb)
     have n3_ := aM' (blk_below (g := gb164) (o := .cells #[.int .u64 t161, .int .u64 t162] 24 (0, 0)) (by (with_reducible repeat (first | refine blk_drewN ?_ _ | refine blk_drew ?_ | refine blk_alloc ?_ _)); exact BK164.out) hb)
     have n4_ := aM' (below_step (by repeat (first | (with_reducible first | exact HB.out | apply below_alloc | apply pw_below_drewN | apply below_drew1 | refine below_set ?_ GE156.out | refine below_set ?_ GE157.out | refine below_set ?_ GE158.out | refine below_set ?_ GE164.out) | exact HB.out)) hb)
     clear BK156
     clear BK157
     clear BK158
     clear BK164
     clear HB
     have BK156 := n0_
     have BK157 := n1_
     have BK158 := n2_
     have BK164 := n3_
     have HB := n4_
     clear n0_ n1_ n2_ n3_ n4_
     (try clear hb)
     (try clear hb2)
     (try clear hk)
     (try clear hi)
     refine hK.out _ _ ⟨(blk_cell BK156.out 0).trans rfl, (blk_cell BK156.out 1).trans rfl, (blk_cell BK156.out 2).trans rfl, (blk_cell BK157.out 0).trans rfl, (blk_cell BK157.out 1).trans rfl, (blk_cell BK157.out 2).trans rfl, (blk_cell BK164.out 0).trans rfl, (blk_cell BK164.out 1).trans rfl⟩ (fun hHeld => ?_)
     clear hK K
     refine norm_ (a' := ?_) ?_ ?_
     rotate_left
     ·
      show Act.put _ (some 35) _ = _
      simp only [Act.put, List.setIfInBounds_toArray, List.set_cons_zero, List.set_cons_succ, i64_w, i32_w]
      rfl
     refine one_ (i := 4) (N := some 36) #[true, true, true, true, true, true, false, false, false] rfl rfl (one_of HT_.out (by kernel_rfl)) (by decide) (fun K hK => ?_)
     refine goes_ Tryz.func45 (by kernel_rfl) rfl #[.int .i64 a0, .string t165] (by rfl) rfl rfl (by (try simp only [List.map_toArray, List.map_cons, List.map_nil]); first | done | rfl | (simp only [List.length_drop, List.length_take]; rfl)) ?_
     with_reducible refine (paymasterref07_Digest.calls a0 t165 t166 _ A29.out).mono ?_
     rintro e w44 ⟨rfl, hb⟩
     refine ⟨_, rfl, ?_⟩
     have n0_ := aM' (blk_below (g := gb156) (o := .cells #[.string a1_0, .int .u64 a1_1, .int .u64 a1_2] 67 (0, 0)) (by (with_reducible repeat (first | refine blk_drewN ?_ _ | refine blk_drew ?_ | refine blk_alloc ?_ _)); exact BK156.out) hb)
     have n1_ := aM' (blk_below (g := gb157) (o := .cells #[.string a2_0, .int .u64 a2_1, .int .u64 a2_2] 67 (0, 0)) (by (with_reducible repeat (first | refine blk_drewN ?_ _ | refine blk_drew ?_ | refine blk_alloc ?_ _)); exact BK157.out) hb)
     have n2_ := aM' (blk_below (g := gb158) (o := .cells #[.string (⟨#[]⟩ : ByteArray), .int .u64 0, .int .u64 0] 67 (0, 0)) (by (with_reducible repeat (first | refine blk_drewN ?_ _ | refine blk_drew ?_ | refine blk_alloc ?_ _)); exact BK158.out) hb)
     have n3_ := aM' (blk_below (g := gb164) (o := .cells #[.int .u64 t161, .int .u64 t162] 24 (0, 0)) (by (with_reducible repeat (first | refine blk_drewN ?_ _ | refine blk_drew ?_ | refine blk_alloc ?_ _)); exact BK164.out) hb)
     have n4_ := aM' (below_step (by repeat (first | (with_reducible first | exact HB.out | apply below_alloc | apply pw_below_drewN | apply below_drew1 | refine below_set ?_ GE156.out | refine below_set ?_ GE157.out | refine below_set ?_ GE158.out | refine below_set ?_ GE164.out) | exact HB.out)) hb)
     clear BK156
     clear BK157
     clear BK158
     clear BK164
     clear HB
     have BK156 := n0_
     have BK157 := n1_
     have BK158 := n2_
     have BK164 := n3_
     have HB := n4_
     clear n0_ n1_ n2_ n3_ n4_
     (try clear hb)
     (try clear hb2)
     (try clear hk)
     (try clear hi)
     refine hK.out _ _ ⟨(blk_cell BK156.out 0).trans rfl, (blk_cell BK156.out 1).trans rfl, (blk_cell BK156.out 2).trans rfl, (blk_cell BK157.out 0).trans rfl, (blk_cell BK157.out 1).trans rfl, (blk_cell BK157.out 2).trans rfl, (blk_cell BK164.out 0).trans rfl, (blk_cell BK164.out 1).trans rfl⟩ (fun hHeld => ?_)
     clear hK K
     refine norm_ (a' := ?_) ?_ ?_
     rotate_left
     ·
      show Act.put _ (some 36) _ = _
      simp only [Act.put, List.setIfInBounds_toArray, List.set_cons_zero, List.set_cons_succ, i64_w, i32_w]
      rfl
     refine pure_ (i := 6) (N := some 38) (v := ?_) (a' := ?_) #[true, true, true, true, true, true, true, false, false] rfl rfl (any_of HT_.out (by kernel_rfl)) (fun _ _ _ h => h) (Or.inl ⟨by rfl, ?_⟩) ?_ ?_
     rotate_left
     ·
      intro w'
      go_simp
      with_reducible rfl
     rotate_left
     ·
      simp only [Act.put, List.setIfInBounds_toArray, List.set_cons_zero, List.set_cons_succ, i64_w, i32_w]
      rfl
     refine one_ (i := 7) (N := none) #[true, true, true, true, true, true, true, true, false] rfl rfl (one_of HT_.out (by kernel_rfl)) (by decide) (fun K hK => ?_)
     have hs45 : w44.cell? ⟨gb158, 0, none⟩ = some (.string (⟨#[]⟩ : ByteArray)) := (blk_cell BK158.out 0).trans rfl
     have hfs45 := blk_frozen BK158.out 0
     have hns45_0 := NB156_158.out
     have hns45_1 := NB157_158.out
     have hns45_3 := NB164_158.out
     have hms45_0 := NB158_156.out
     have hms45_1 := NB158_157.out
     have hms45_3 := NB158_164.out
     have hs46 : w44.cell? ⟨gb158, 1, none⟩ = some (.int .u64 0) := (blk_cell BK158.out 1).trans rfl
     have hfs46 := blk_frozen BK158.out 1
     have hns46_0 := NB156_158.out
     have hns46_1 := NB157_158.out
     have hns46_3 := NB164_158.out
     have hms46_0 := NB158_156.out
     have hms46_1 := NB158_157.out
     have hms46_3 := NB158_164.out
     have hs47 : w44.cell? ⟨gb158, 2, none⟩ = some (.int .u64 0) := (blk_cell BK158.out 2).trans rfl
     have hfs47 := blk_frozen BK158.out 2
     have hns47_0 := NB156_158.out
     have hns47_1 := NB157_158.out
     have hns47_3 := NB164_158.out
     have hms47_0 := NB158_156.out
     have hms47_1 := NB158_157.out
     have hms47_3 := NB158_164.out
     refine skip_ (w1 := ?_) (by rfl) rfl ?_ ?_
     rotate_left
     ·
      go_simp
      rfl
     refine hK.out _ _ ⟨((cell_far (p := ⟨gb158, _, none⟩) NB156_158.out _).trans (((cell_far (p := ⟨gb158, _, none⟩) NB156_158.out _).trans (((cell_far (p := ⟨gb158, _, none⟩) NB156_158.out _).trans (hHeld.1)))))), ((cell_far (p := ⟨gb158, _, none⟩) NB156_158.out _).trans (((cell_far (p := ⟨gb158, _, none⟩) NB156_158.out _).trans (((cell_far (p := ⟨gb158, _, none⟩) NB156_158.out _).trans (hHeld.2.1)))))), ((cell_far (p := ⟨gb158, _, none⟩) NB156_158.out _).trans (((cell_far (p := ⟨gb158, _, none⟩) NB156_158.out _).trans (((cell_far (p := ⟨gb158, _, none⟩) NB156_158.out _).trans (hHeld.2.2.1)))))), ((cell_far (p := ⟨gb158, _, none⟩) NB157_158.out _).trans (((cell_far (p := ⟨gb158, _, none⟩) NB157_158.out _).trans (((cell_far (p := ⟨gb158, _, none⟩) NB157_158.out _).trans (hHeld.2.2.2.1)))))), ((cell_far (p := ⟨gb158, _, none⟩) NB157_158.out _).trans (((cell_far (p := ⟨gb158, _, none⟩) NB157_158.out _).trans (((cell_far (p := ⟨gb158, _, none⟩) NB157_158.out _).trans (hHeld.2.2.2.2.1)))))), ((cell_far (p := ⟨gb158, _, none⟩) NB157_158.out _).trans (((cell_far (p := ⟨gb158, _, none⟩) NB157_158.out _).trans (((cell_far (p := ⟨gb158, _, none⟩) NB157_158.out _).trans (hHeld.2.2.2.2.2.1)))))), ((cell_far (p := ⟨gb158, _, none⟩) NB164_158.out _).trans (((cell_far (p := ⟨gb158, _, none⟩) NB164_158.out _).trans (((cell_far (p := ⟨gb158, _, none⟩) NB164_158.out _).trans (hHeld.2.2.2.2.2.2.1)))))), ((cell_far (p := ⟨gb158, _, none⟩) NB164_158.out _).trans (((cell_far (p := ⟨gb158, _, none⟩) NB164_158.out _).trans (((cell_far (p := ⟨gb158, _, none⟩) NB164_158.out _).trans (hHeld.2.2.2.2.2.2.2))))))⟩ (fun hHeld => ?_)
     clear hK K
     refine pure_ (i := 8) (N := some 7) (v := ?_) (a' := ?_) #[true, true, true, true, true, true, true, true, true] rfl rfl (any_of HT_.out (by kernel_rfl)) (fun _ _ _ h => h) (Or.inl ⟨by rfl, ?_⟩) ?_ ?_
     rotate_left
     ·
      intro w'
      go_simp
      with_reducible rfl
     rotate_left
     ·
      simp only [Act.put, List.setIfInBounds_toArray, List.set_cons_zero, List.set_cons_succ, i64_w, i32_w]
      rfl
     refine done_ (done_of HT_.out (by kernel_rfl)) ?_
     try go_wp2
     refine bodyPost_ret (results_ct rfl _ _ gb158 67 #[.string t166, .int .u64 t161, .int .u64 t162] (0, 0) _ rfl (by (with_reducible repeat (first | refine blk_drewN ?_ _ | refine blk_drew ?_ | refine blk_alloc ?_ _)); refine blk_put (cs := #[.string t166, .int .u64 t161, .int .u64 0]) ?_ 2 _ rfl; (with_reducible repeat (first | refine blk_drewN ?_ _ | refine blk_drew ?_ | refine blk_alloc ?_ _)); refine blk_put (cs := #[.string t166, .int .u64 0, .int .u64 0]) ?_ 1 _ rfl; (with_reducible repeat (first | refine blk_drewN ?_ _ | refine blk_drew ?_ | refine blk_alloc ?_ _)); refine blk_put (cs := #[.string (⟨#[]⟩ : ByteArray), .int .u64 0, .int .u64 0]) ?_ 0 _ rfl; (with_reducible repeat (first | refine blk_drewN ?_ _ | refine blk_drew ?_ | refine blk_alloc ?_ _)); exact BK158.out) Tryz.underlying67 rfl (by kernel_rfl)) rfl ?_
     exact ⟨by first | rfl | (simp [errW_none, errW_some] <;> rfl) | (simp [*, errW_none, errW_some] <;> rfl), by repeat (first | (with_reducible first | exact HB.out | apply below_alloc | apply pw_below_drewN | apply below_drew1 | refine below_set ?_ GE156.out | refine below_set ?_ GE157.out | refine below_set ?_ GE158.out | refine below_set ?_ GE164.out) | exact HB.out)⟩
    ·
     rw [if_neg c27] at H
     have c27b0 : (t163 == 0) = false := beq_eq_false_iff_ne.mpr c27
     have c27b1 : (t163 != 0) = true := bne_iff_ne.mpr c27
     simp only [Option.some.injEq, Prod.mk.injEq] at H
     obtain ⟨rfl, rfl, rfl, rfl⟩ := H
     have hnb48 := NB156_157.out
     have hnc48 := NB157_156.out
     have hnb49 := NB156_158.out
     have hnc49 := NB158_156.out
     have hcz50_0 : wc.cell? ⟨gb156, 0, none⟩ = some (.string a1_0) := (blk_cell BK156.out 0).trans rfl
     have hcz50_1 : wc.cell? ⟨gb156, 1, none⟩ = some (.int .u64 a1_1) := (blk_cell BK156.out 1).trans rfl
     have hcz50_2 : wc.cell? ⟨gb156, 2, none⟩ = some (.int .u64 a1_2) := (blk_cell BK156.out 2).trans rfl
     have hfz50_0 := blk_frozen BK156.out 0
     have hfz50_1 := blk_frozen BK156.out 1
     have hfz50_2 := blk_frozen BK156.out 2
     have hnb51 := NB157_158.out
     have hnc51 := NB158_157.out
     have hcz52_0 : wc.cell? ⟨gb157, 0, none⟩ = some (.string a2_0) := (blk_cell BK157.out 0).trans rfl
     have hcz52_1 : wc.cell? ⟨gb157, 1, none⟩ = some (.int .u64 a2_1) := (blk_cell BK157.out 1).trans rfl
     have hcz52_2 : wc.cell? ⟨gb157, 2, none⟩ = some (.int .u64 a2_2) := (blk_cell BK157.out 2).trans rfl
     have hfz52_0 := blk_frozen BK157.out 0
     have hfz52_1 := blk_frozen BK157.out 1
     have hfz52_2 := blk_frozen BK157.out 2
     go_wp2_with (first | ((with_reducible refine gate_callee (f := 58) rfl ?_); refine goesL_ (some 26) rfl rfl Tryz.func58 (by kernel_rfl) rfl #[.agg #[.int .u64 a1_1, .int .u64 a1_2], .agg #[.int .u64 a2_1, .int .u64 a2_2]] rfl (by (try simp only [List.map_toArray, List.map_cons, List.map_nil]); first | done | rfl | (simp only [List.length_drop, List.length_take]; rfl)) ?_; (with_reducible refine (paymasterref01_Add.calls kj3 a1_1 a1_2 a2_1 a2_2 t161 t162 t163 _ A26.out).mono ?_); rintro e w53 ⟨rfl, hb⟩; refine ⟨_, rfl, ?_⟩; have n0_ := aM' (blk_below (g := gb156) (o := .cells #[.string a1_0, .int .u64 a1_1, .int .u64 a1_2] 67 (0, 0)) (by (with_reducible repeat (first | refine blk_drewN ?_ _ | refine blk_drew ?_ | refine blk_alloc ?_ _)); exact BK156.out) hb); have n1_ := aM' (blk_below (g := gb157) (o := .cells #[.string a2_0, .int .u64 a2_1, .int .u64 a2_2] 67 (0, 0)) (by (with_reducible repeat (first | refine blk_drewN ?_ _ | refine blk_drew ?_ | refine blk_alloc ?_ _)); exact BK157.out) hb); have n2_ := aM' (blk_below (g := gb158) (o := .cells #[.string (⟨#[]⟩ : ByteArray), .int .u64 0, .int .u64 0] 67 (0, 0)) (by (with_reducible repeat (first | refine blk_drewN ?_ _ | refine blk_drew ?_ | refine blk_alloc ?_ _)); exact BK158.out) hb); have n3_ := aM' (below_step (by repeat (first | (with_reducible first | exact HB.out | apply below_alloc | apply pw_below_drewN | apply below_drew1 | refine below_set ?_ GE156.out | refine below_set ?_ GE157.out | refine below_set ?_ GE158.out) | exact HB.out)) hb); clear BK156; clear BK157; clear BK158; clear HB; have BK156 := n0_; have BK157 := n1_; have BK158 := n2_; have HB := n3_; clear n0_ n1_ n2_ n3_; (try clear hb); (try clear hb2); (try clear hk); (try clear hi)) | ((with_reducible refine gate_dst (N := 8) rfl ?_); refine box_event ?hg (N := 8) ?hd (cs := #[.int .u64 0, .int .u64 0]) (t := 24) ?hr ?_; (case hd => rfl); (case hg => rfl); (case hr => first | (go_simp; done) | (go_simp; rfl)); intro gb164 hg w54 hbox hb; have n0_ := aM' (blk_below (g := gb156) (o := .cells #[.string a1_0, .int .u64 a1_1, .int .u64 a1_2] 67 (0, 0)) (by (with_reducible repeat (first | refine blk_drewN ?_ _ | refine blk_drew ?_ | refine blk_alloc ?_ _)); exact BK156.out) hb); have n1_ := aM' (blk_below (g := gb157) (o := .cells #[.string a2_0, .int .u64 a2_1, .int .u64 a2_2] 67 (0, 0)) (by (with_reducible repeat (first | refine blk_drewN ?_ _ | refine blk_drew ?_ | refine blk_alloc ?_ _)); exact BK157.out) hb); have n2_ := aM' (blk_below (g := gb158) (o := .cells #[.string (⟨#[]⟩ : ByteArray), .int .u64 0, .int .u64 0] 67 (0, 0)) (by (with_reducible repeat (first | refine blk_drewN ?_ _ | refine blk_drew ?_ | refine blk_alloc ?_ _)); exact BK158.out) hb); have n3_ := aM' (below_step (by repeat (first | (with_reducible first | exact HB.out | apply below_alloc | apply pw_below_drewN | apply below_drew1 | refine below_set ?_ GE156.out | refine below_set ?_ GE157.out | refine below_set ?_ GE158.out) | exact HB.out)) hb); have n4_ := aM' (hbox); have n5_ := aM' ((by rw [hg]; exact (below_size (by repeat (first | (with_reducible first | exact HB.out | apply below_alloc | apply pw_below_drewN | apply below_drew1 | refine below_set ?_ GE156.out | refine below_set ?_ GE157.out | refine below_set ?_ GE158.out) | exact HB.out))) : w.heap.size ≤ gb164)); have n6_ := aM' ((by rw [hg]; exact (below_size (by repeat (first | (with_reducible first | exact HB.out | apply below_alloc | apply pw_below_drewN | apply below_drew1 | refine below_set ?_ GE156.out | refine below_set ?_ GE157.out | refine below_set ?_ GE158.out) | exact HB.out))) : w.heap.size ≤ gb164)); have n7_ := aM' ((by rw [hg]; exact Nat.ne_of_lt (blk_lt (g := gb156) (o := .cells #[.string a1_0, .int .u64 a1_1, .int .u64 a1_2] 67 (0, 0)) (by (with_reducible repeat (first | refine blk_drewN ?_ _ | refine blk_drew ?_ | refine blk_alloc ?_ _)); exact BK156.out)) : gb156 ≠ gb164)); have n8_ := aM' ((by rw [hg]; exact Nat.ne_of_gt (blk_lt (g := gb156) (o := .cells #[.string a1_0, .int .u64 a1_1, .int .u64 a1_2] 67 (0, 0)) (by (with_reducible repeat (first | refine blk_drewN ?_ _ | refine blk_drew ?_ | refine blk_alloc ?_ _)); exact BK156.out)) : gb164 ≠ gb156)); have n9_ := aM' ((by rw [hg]; exact Nat.ne_of_lt (blk_lt (g := gb157) (o := .cells #[.string a2_0, .int .u64 a2_1, .int .u64 a2_2] 67 (0, 0)) (by (with_reducible repeat (first | refine blk_drewN ?_ _ | refine blk_drew ?_ | refine blk_alloc ?_ _)); exact BK157.out)) : gb157 ≠ gb164)); have n10_ := aM' ((by rw [hg]; exact Nat.ne_of_gt (blk_lt (g := gb157) (o := .cells #[.string a2_0, .int .u64 a2_1, .int .u64 a2_2] 67 (0, 0)) (by (with_reducible repeat (first | refine blk_drewN ?_ _ | refine blk_drew ?_ | refine blk_alloc ?_ _)); exact BK157.out)) : gb164 ≠ gb157)); have n11_ := aM' ((by rw [hg]; exact Nat.ne_of_lt (blk_lt (g := gb158) (o := .cells #[.string (⟨#[]⟩ : ByteArray), .int .u64 0, .int .u64 0] 67 (0, 0)) (by (with_reducible repeat (first | refine blk_drewN ?_ _ | refine blk_drew ?_ | refine blk_alloc ?_ _)); exact BK158.out)) : gb158 ≠ gb164)); have n12_ := aM' ((by rw [hg]; exact Nat.ne_of_gt (blk_lt (g := gb158) (o := .cells #[.string (⟨#[]⟩ : ByteArray), .int .u64 0, .int .u64 0] 67 (0, 0)) (by (with_reducible repeat (first | refine blk_drewN ?_ _ | refine blk_drew ?_ | refine blk_alloc ?_ _)); exact BK158.out)) : gb164 ≠ gb158)); clear BK156; clear BK157; clear BK158; clear HB; have BK156 := n0_; have BK157 := n1_; have BK158 := n2_; have HB := n3_; have BK164 := n4_; have GW164 := n5_; have GE164 := n6_; have NB156_164 := n7_; have NB164_156 := n8_; have NB157_164 := n9_; have NB164_157 := n10_; have NB158_164 := n11_; have NB164_158 := n12_; clear n0_ n1_ n2_ n3_ n4_ n5_ n6_ n7_ n8_ n9_ n10_ n11_ n12_; clear hb hbox hg; have hnb55 := NB164_156.out; have hnc55 := NB156_164.out; have hnb56 := NB164_157.out; have hnc56 := NB157_164.out; have hnb57 := NB164_158.out; have hnc57 := NB158_164.out; have hcz58_0 : w54.cell? ⟨gb164, 0, none⟩ = some (.int .u64 0) := (blk_cell BK164.out 0).trans rfl; have hcz58_1 : w54.cell? ⟨gb164, 1, none⟩ = some (.int .u64 0) := (blk_cell BK164.out 1).trans rfl; have hfz58_0 := blk_frozen BK164.out 0; have hfz58_1 := blk_frozen BK164.out 1; have hcz59_0 : w54.cell? ⟨gb158, 0, none⟩ = some (.string (⟨#[]⟩ : ByteArray)) := (blk_cell BK158.out 0).trans rfl; have hcz59_1 : w54.cell? ⟨gb158, 1, none⟩ = some (.int .u64 0) := (blk_cell BK158.out 1).trans rfl; have hcz59_2 : w54.cell? ⟨gb158, 2, none⟩ = some (.int .u64 0) := (blk_cell BK158.out 2).trans rfl; have hfz59_0 := blk_frozen BK158.out 0; have hfz59_1 := blk_frozen BK158.out 1; have hfz59_2 := blk_frozen BK158.out 2))
     refine bodyPost_ret (results_ct rfl _ _ gb158 67 #[.string (⟨#[]⟩ : ByteArray), .int .u64 0, .int .u64 0] (0, 0) _ rfl (by (with_reducible repeat (first | refine blk_drewN ?_ _ | refine blk_drew ?_ | refine blk_alloc ?_ _)); refine blk_put (cs := #[.string (⟨#[]⟩ : ByteArray), .int .u64 0, .int .u64 0]) ?_ 2 _ rfl; (with_reducible repeat (first | refine blk_drewN ?_ _ | refine blk_drew ?_ | refine blk_alloc ?_ _)); refine blk_put (cs := #[.string (⟨#[]⟩ : ByteArray), .int .u64 0, .int .u64 0]) ?_ 1 _ rfl; (with_reducible repeat (first | refine blk_drewN ?_ _ | refine blk_drew ?_ | refine blk_alloc ?_ _)); refine blk_put (cs := #[.string (⟨#[]⟩ : ByteArray), .int .u64 0, .int .u64 0]) ?_ 0 _ rfl; (with_reducible repeat (first | refine blk_drewN ?_ _ | refine blk_drew ?_ | refine blk_alloc ?_ _)); refine blk_far ?_ NB158_164.out _; (with_reducible repeat (first | refine blk_drewN ?_ _ | refine blk_drew ?_ | refine blk_alloc ?_ _)); refine blk_far ?_ NB158_164.out _; (with_reducible repeat (first | refine blk_drewN ?_ _ | refine blk_drew ?_ | refine blk_alloc ?_ _)); exact BK158.out) Tryz.underlying67 rfl (by kernel_rfl)) rfl ?_
     exact ⟨by first | rfl | (simp [errW_none, errW_some] <;> rfl) | (simp [*, errW_none, errW_some] <;> rfl), by repeat (first | (with_reducible first | exact HB.out | apply below_alloc | apply pw_below_drewN | apply below_drew1 | refine below_set ?_ GE156.out | refine below_set ?_ GE157.out | refine below_set ?_ GE158.out | refine below_set ?_ GE164.out) | exact HB.out)⟩
def tag_Digest.f (a0 : Int) (a1 : ByteArray) : Option (ByteArray) := (tag_MayWidth.f a0).bind fun t168 => (if t168 = true then ((sha_Sum.f a1).bind fun t169 => (if 0 ≤ a0 then (if a0 ≤ (t169.size : Int) then (some (t169.extract 0 (a0 : Int).toNat)) else (none)) else (none))) else (some (⟨#[]⟩ : ByteArray)))
set_option maxHeartbeats 8000000 in
set_option maxRecDepth 100000 in
theorem tag_Digest.calls (a0 : Int) (a1 : ByteArray) (r : ByteArray) (w : World) (hK : Laid w) (h : tag_Digest.f a0 a1 = some r) :
  Calls Tryz.prog 55 #[.int .i64 a0, .string a1] w fun e w' => e = .returned (.string r) ∧ Below w.heap.size w w' := by
 have HB := aM' (Below.refl w.heap.size w)
 have HLD := aM' hK
 clear hK
 have H : ((tag_MayWidth.f a0).bind fun t168 => (if t168 = true then ((sha_Sum.f a1).bind fun t169 => (if 0 ≤ a0 then (if a0 ≤ (t169.size : Int) then (some (t169.extract 0 (a0 : Int).toNat)) else (none)) else (none))) else (some (⟨#[]⟩ : ByteArray)))) = some r := h
 clear h
 replace H := Option.bind_eq_some_iff.mp H
 obtain ⟨t168, A30, H⟩ := H
 replace H : (if t168 = true then ((sha_Sum.f a1).bind fun t169 => (if 0 ≤ a0 then (if a0 ≤ (t169.size : Int) then (some (t169.extract 0 (a0 : Int).toNat)) else (none)) else (none))) else (some (⟨#[]⟩ : ByteArray))) = some r := H
 have A3 := aM' A30
 clear A30
 by_cases c4 : t168 = true
 ·
  subst c4
  have H1 : ((sha_Sum.f a1).bind fun t169 => (if 0 ≤ a0 then (if a0 ≤ (t169.size : Int) then (some (t169.extract 0 (a0 : Int).toNat)) else (none)) else (none))) = some r := by rw [if_pos rfl] at H; exact H
  clear H
  have H := H1
  clear H1
  replace H := Option.bind_eq_some_iff.mp H
  obtain ⟨t169, A50, H⟩ := H
  replace H : (if 0 ≤ a0 then (if a0 ≤ (t169.size : Int) then (some (t169.extract 0 (a0 : Int).toNat)) else (none)) else (none)) = some r := H
  have A5 := aM' A50
  clear A50
  by_cases c6 : 0 ≤ a0
  ·
   rw [if_pos c6] at H
   have c6b0 := eq_true c6
   have c6b1 : decide (0 ≤ a0) = true := decide_eq_true c6
   clear c6
   by_cases c7 : a0 ≤ (t169.size : Int)
   ·
    rw [if_pos c7] at H
    have c7b0 := eq_true c7
    have c7b1 : decide (a0 ≤ (t169.size : Int)) = true := decide_eq_true c7
    clear c7
    obtain rfl := Option.some.inj H
    go_enter Tryz.func55, Tryz.ntmps55
    go_wp2_with (first | ((with_reducible refine gate_callee (f := 54) rfl ?_); refine goesL_ (some 6) rfl rfl Tryz.func54 (by kernel_rfl) rfl #[.int .i64 a0] rfl (by (try simp only [List.map_toArray, List.map_cons, List.map_nil]); first | done | rfl | (simp only [List.length_drop, List.length_take]; rfl)) ?_; (with_reducible refine (tag_MayWidth.calls a0 true _ A3.out).mono ?_); rintro e w' ⟨rfl, ⟨nd, rfl⟩⟩; refine ⟨_, rfl, ?_⟩) | ((with_reducible refine gate_callee (f := 72) rfl ?_); refine goesL_ (some 9) rfl rfl Tryz.func72 (by kernel_rfl) rfl #[.string a1] rfl (by (try simp only [List.map_toArray, List.map_cons, List.map_nil]); first | done | rfl | (simp only [List.length_drop, List.length_take]; rfl)) ?_; (with_reducible refine (sha_Sum.calls a1 t169 _ ?side1 A5.out).mono ?_); (case side1 => exact Laid.below HLD.out (by repeat (first | (with_reducible first | exact HB.out | apply below_alloc | apply pw_below_drewN | apply below_drew1) | exact HB.out))); rintro e w8 ⟨rfl, hb⟩; refine ⟨_, rfl, ?_⟩; have n0_ := aM' (below_step (by repeat (first | (with_reducible first | exact HB.out | apply below_alloc | apply pw_below_drewN | apply below_drew1) | exact HB.out)) hb); clear HB; have HB := n0_; clear n0_; (try clear hb); (try clear hb2); (try clear hk); (try clear hi)))
    go_ret
    exact ⟨by first | rfl | (simp [errW_none, errW_some] <;> rfl) | (simp [*, errW_none, errW_some] <;> rfl), by repeat (first | (with_reducible first | exact HB.out | apply below_alloc | apply pw_below_drewN | apply below_drew1) | exact HB.out)⟩
   ·
    rw [if_neg c7] at H
    exact absurd H (by simp)
  ·
   rw [if_neg c6] at H
   exact absurd H (by simp)
 ·
  replace c4 := Bool.eq_false_iff.mpr c4
  subst c4
  have H1 : (some (⟨#[]⟩ : ByteArray)) = some r := by rw [if_neg (show ¬ (false = true) by decide)] at H; exact H
  clear H
  have H := H1
  clear H1
  obtain rfl := Option.some.inj H
  go_enter Tryz.func55, Tryz.ntmps55
  go_wp2_with (first | ((with_reducible refine gate_callee (f := 54) rfl ?_); refine goesL_ (some 6) rfl rfl Tryz.func54 (by kernel_rfl) rfl #[.int .i64 a0] rfl (by (try simp only [List.map_toArray, List.map_cons, List.map_nil]); first | done | rfl | (simp only [List.length_drop, List.length_take]; rfl)) ?_; (with_reducible refine (tag_MayWidth.calls a0 false _ A3.out).mono ?_); rintro e w' ⟨rfl, ⟨nd, rfl⟩⟩; refine ⟨_, rfl, ?_⟩))
  go_ret
  exact ⟨by first | rfl | (simp [errW_none, errW_some] <;> rfl) | (simp [*, errW_none, errW_some] <;> rfl), by repeat (first | (with_reducible first | exact HB.out | apply below_alloc | apply pw_below_drewN | apply below_drew1) | exact HB.out)⟩
end Go.Proofs.YtlmmpncdemblbaaGreatDoor.P
namespace Go.Proofs.YtlmmpncdemblbaaGreatDoor.P
open Go.RowKit Go.Proofs.YtlmmpncdemblbaaGreatDoorW.PrintWords Go.Proofs.YtlmmpncdemblbaaGreatDoorW.PrintLast Go.Proofs.YtlmmpncdemblbaaGreatDoorW.PrintMore
attribute [local go_sem] max2_int min2_int max_two min_two max_three min_three max_four min_four-- for this text's walks alone
set_option linter.unusedVariables false
set_option linter.unusedSimpArgs false
def paymasterref07_LeafText.f (k : Nat) (a0_0 : Bool) (a0_1 : ByteArray) (a0_2 : ByteArray) (a0_3 : Int) (a0_4 : Int) : Option (ByteArray) := (paymasterref07_MayLeaf.f k a0_0 a0_1 a0_2 a0_3 a0_4).bind fun t131 => (if t131 = true then ((some (([((a0_2.size : Int)) % 256] : List Int) : List Int)).bind fun y132 => (if (strOfNums y132).size + a0_2.size ≤ 9223372036854775807 then (if a0_0 = true then (if 1 + ((strOfNums y132) ++ a0_2).size ≤ 9223372036854775807 then (some ((⟨#[2]⟩ : ByteArray) ++ ((strOfNums y132) ++ a0_2))) else (none)) else ((some (([0, ((a0_1.size : Int)) % 256] : List Int) : List Int)).bind fun y135 => (if (strOfNums y135).size + a0_1.size ≤ 9223372036854775807 then (if ((strOfNums y135) ++ a0_1).size + ((strOfNums y132) ++ a0_2).size ≤ 9223372036854775807 then ((paymasterref01_Bytes.f k a0_3 a0_4).bind fun t138 => (if (((strOfNums y135) ++ a0_1) ++ ((strOfNums y132) ++ a0_2)).size + t138.size ≤ 9223372036854775807 then (some ((((strOfNums y135) ++ a0_1) ++ ((strOfNums y132) ++ a0_2)) ++ t138)) else (none))) else (none)) else (none)))) else (none))) else (some (⟨#[]⟩ : ByteArray)))
def paymasterref07_LeafText.T6 : Bool × List (List Nat × List Nat) := (true, [([], []), ([0], [0]), ([1], [1]), ([2], [2]), ([3], [3]), ([4], [4]), ([], []), ([6], [6]), ([5, 7], [5, 7]), ([], []), ([8, 9], [8, 9]), ([], []), ([11], [11]), ([12], [12]), ([10, 13], [10, 13]), ([14, 13, 0, 1, 2, 3, 4, 5, 6, 7, 8, 9, 10, 11, 12, 13, 14], [14])])
def paymasterref07_LeafText.B6 : List Nat := [0, 1, 3, 7, 15, 31, 0, 64, 255, 0, 1023, 0, 2048, 6144, 16383, 32767]
theorem paymasterref07_LeafText.tab6 : rtab .any (opsOf Tryz.f46 6) = paymasterref07_LeafText.T6 := by kernel_rfl
theorem paymasterref07_LeafText.bits6 : waitsOk paymasterref07_LeafText.T6.2 paymasterref07_LeafText.B6 = true := by kernel_rfl
set_option maxHeartbeats 8000000 in
set_option maxRecDepth 100000 in
theorem paymasterref07_LeafText.calls (k : Nat) (a0_0 : Bool) (a0_1 : ByteArray) (a0_2 : ByteArray) (a0_3 : Int) (a0_4 : Int) (r : ByteArray) (w : World) (h : paymasterref07_LeafText.f k a0_0 a0_1 a0_2 a0_3 a0_4 = some r) :
  Calls Tryz.prog 46 #[.agg #[.bool a0_0, .string a0_1, .string a0_2, .int .u64 a0_3, .int .u64 a0_4]] w fun e w' => e = .returned (.string r) ∧ Below w.heap.size w w' := by
 have hu34 := Tryz.underlying34
 have hu24 := Tryz.underlying24
 have HB := aM' (Below.refl w.heap.size w)
 have H : ((paymasterref07_MayLeaf.f k a0_0 a0_1 a0_2 a0_3 a0_4).bind fun t131 => (if t131 = true then ((some (([((a0_2.size : Int)) % 256] : List Int) : List Int)).bind fun y132 => (if (strOfNums y132).size + a0_2.size ≤ 9223372036854775807 then (if a0_0 = true then (if 1 + ((strOfNums y132) ++ a0_2).size ≤ 9223372036854775807 then (some ((⟨#[2]⟩ : ByteArray) ++ ((strOfNums y132) ++ a0_2))) else (none)) else ((some (([0, ((a0_1.size : Int)) % 256] : List Int) : List Int)).bind fun y135 => (if (strOfNums y135).size + a0_1.size ≤ 9223372036854775807 then (if ((strOfNums y135) ++ a0_1).size + ((strOfNums y132) ++ a0_2).size ≤ 9223372036854775807 then ((paymasterref01_Bytes.f k a0_3 a0_4).bind fun t138 => (if (((strOfNums y135) ++ a0_1) ++ ((strOfNums y132) ++ a0_2)).size + t138.size ≤ 9223372036854775807 then (some ((((strOfNums y135) ++ a0_1) ++ ((strOfNums y132) ++ a0_2)) ++ t138)) else (none))) else (none)) else (none)))) else (none))) else (some (⟨#[]⟩ : ByteArray)))) = some r := h
 clear h
 replace H := Option.bind_eq_some_iff.mp H
 obtain ⟨t131, A20, H⟩ := H
 replace H : (if t131 = true then ((some (([((a0_2.size : Int)) % 256] : List Int) : List Int)).bind fun y132 => (if (strOfNums y132).size + a0_2.size ≤ 9223372036854775807 then (if a0_0 = true then (if 1 + ((strOfNums y132) ++ a0_2).size ≤ 9223372036854775807 then (some ((⟨#[2]⟩ : ByteArray) ++ ((strOfNums y132) ++ a0_2))) else (none)) else ((some (([0, ((a0_1.size : Int)) % 256] : List Int) : List Int)).bind fun y135 => (if (strOfNums y135).size + a0_1.size ≤ 9223372036854775807 then (if ((strOfNums y135) ++ a0_1).size + ((strOfNums y132) ++ a0_2).size ≤ 9223372036854775807 then ((paymasterref01_Bytes.f k a0_3 a0_4).bind fun t138 => (if (((strOfNums y135) ++ a0_1) ++ ((strOfNums y132) ++ a0_2)).size + t138.size ≤ 9223372036854775807 then (some ((((strOfNums y135) ++ a0_1) ++ ((strOfNums y132) ++ a0_2)) ++ t138)) else (none))) else (none)) else (none)))) else (none))) else (some (⟨#[]⟩ : ByteArray))) = some r := H
 have A2 := aM' A20
 clear A20
 by_cases c3 : t131 = true
 ·
  subst c3
  have H1 : ((some (([((a0_2.size : Int)) % 256] : List Int) : List Int)).bind fun y132 => (if (strOfNums y132).size + a0_2.size ≤ 9223372036854775807 then (if a0_0 = true then (if 1 + ((strOfNums y132) ++ a0_2).size ≤ 9223372036854775807 then (some ((⟨#[2]⟩ : ByteArray) ++ ((strOfNums y132) ++ a0_2))) else (none)) else ((some (([0, ((a0_1.size : Int)) % 256] : List Int) : List Int)).bind fun y135 => (if (strOfNums y135).size + a0_1.size ≤ 9223372036854775807 then (if ((strOfNums y135) ++ a0_1).size + ((strOfNums y132) ++ a0_2).size ≤ 9223372036854775807 then ((paymasterref01_Bytes.f k a0_3 a0_4).bind fun t138 => (if (((strOfNums y135) ++ a0_1) ++ ((strOfNums y132) ++ a0_2)).size + t138.size ≤ 9223372036854775807 then (some ((((strOfNums y135) ++ a0_1) ++ ((strOfNums y132) ++ a0_2)) ++ t138)) else (none))) else (none)) else (none)))) else (none))) = some r := by rw [if_pos rfl] at H; exact H
  clear H
  have H := H1
  clear H1
  obtain ⟨y132, hy132⟩ : ∃ y_ : List Int, y_ = (([((a0_2.size : Int)) % 256] : List Int)) := ⟨_, rfl⟩
  replace H : (if (strOfNums y132).size + a0_2.size ≤ 9223372036854775807 then (if a0_0 = true then (if 1 + ((strOfNums y132) ++ a0_2).size ≤ 9223372036854775807 then (some ((⟨#[2]⟩ : ByteArray) ++ ((strOfNums y132) ++ a0_2))) else (none)) else ((some (([0, ((a0_1.size : Int)) % 256] : List Int) : List Int)).bind fun y135 => (if (strOfNums y135).size + a0_1.size ≤ 9223372036854775807 then (if ((strOfNums y135) ++ a0_1).size + ((strOfNums y132) ++ a0_2).size ≤ 9223372036854775807 then ((paymasterref01_Bytes.f k a0_3 a0_4).bind fun t138 => (if (((strOfNums y135) ++ a0_1) ++ ((strOfNums y132) ++ a0_2)).size + t138.size ≤ 9223372036854775807 then (some ((((strOfNums y135) ++ a0_1) ++ ((strOfNums y132) ++ a0_2)) ++ t138)) else (none))) else (none)) else (none)))) else (none)) = some r := by first | (rw [hy132]; with_reducible exact H) | (have H2_ := (Option.bind_some _ _).symm.trans H; rw [hy132]; with_reducible exact H2_) | (have H2_ := (Option.bind_some _ _).symm.trans H; with_reducible exact H2_) | with_reducible exact H | (rw [hy132]; exact H) | exact H
  have Ny132 := aM' hy132
  clear hy132
  by_cases c4 : (strOfNums y132).size + a0_2.size ≤ 9223372036854775807
  ·
   rw [if_pos c4] at H
   have c4b0 := eq_true c4
   have c4b1 : decide ((strOfNums y132).size + a0_2.size ≤ 9223372036854775807) = true := decide_eq_true c4
   try have c4b2 : (9223372036854775807 < (strOfNums y132).size + a0_2.size) = False := eq_false (Nat.not_lt.2 c4)
   try (have c4b9 := c4; simp only [ByteArray.size_append, ba_size, List.length_cons, List.length_nil, Nat.zero_add, Nat.reduceAdd] at c4b9; have c4b8 := eq_false (Nat.not_lt.2 c4b9))
   by_cases c5 : a0_0 = true
   ·
    subst c5
    have H1 : (if 1 + ((strOfNums y132) ++ a0_2).size ≤ 9223372036854775807 then (some ((⟨#[2]⟩ : ByteArray) ++ ((strOfNums y132) ++ a0_2))) else (none)) = some r := by rw [if_pos rfl] at H; exact H
    clear H
    have H := H1
    clear H1
    by_cases c6 : 1 + ((strOfNums y132) ++ a0_2).size ≤ 9223372036854775807
    ·
     rw [if_pos c6] at H
     have c6b0 := eq_true c6
     have c6b1 : decide (1 + ((strOfNums y132) ++ a0_2).size ≤ 9223372036854775807) = true := decide_eq_true c6
     try have c6b2 : (9223372036854775807 < 1 + ((strOfNums y132) ++ a0_2).size) = False := eq_false (Nat.not_lt.2 c6)
     try (have c6b9 := c6; simp only [ByteArray.size_append, ba_size, List.length_cons, List.length_nil, Nat.zero_add, Nat.reduceAdd] at c6b9; have c6b8 := eq_false (Nat.not_lt.2 c6b9))
     obtain rfl := Option.some.inj H
     go_enter Tryz.func46, Tryz.ntmps46
     go_wp2_with (first | ((with_reducible refine gate_dst (N := 1) rfl ?_); refine box_event ?hg (N := 1) ?hd (cs := #[.bool true, .string a0_1, .string a0_2, .int .u64 a0_3, .int .u64 a0_4]) (t := 34) ?hr ?_; (case hd => rfl); (case hg => rfl); (case hr => first | (go_simp; done) | (go_simp; rfl)); intro gb130 hg w7 hbox hb; have n0_ := aM' (below_step (by repeat (first | (with_reducible first | exact HB.out | apply below_alloc | apply pw_below_drewN | apply below_drew1) | exact HB.out)) hb); have n1_ := aM' (hbox); have n2_ := aM' ((by rw [hg]; exact (below_size (by repeat (first | (with_reducible first | exact HB.out | apply below_alloc | apply pw_below_drewN | apply below_drew1) | exact HB.out))) : w.heap.size ≤ gb130)); have n3_ := aM' ((by rw [hg]; exact (below_size (by repeat (first | (with_reducible first | exact HB.out | apply below_alloc | apply pw_below_drewN | apply below_drew1) | exact HB.out))) : w.heap.size ≤ gb130)); clear HB; have HB := n0_; have BK130 := n1_; have GW130 := n2_; have GE130 := n3_; clear n0_ n1_ n2_ n3_; clear hb hbox hg; have hcz8_0 : w7.cell? ⟨gb130, 0, none⟩ = some (.bool true) := (blk_cell BK130.out 0).trans rfl; have hcz8_1 : w7.cell? ⟨gb130, 1, none⟩ = some (.string a0_1) := (blk_cell BK130.out 1).trans rfl; have hcz8_2 : w7.cell? ⟨gb130, 2, none⟩ = some (.string a0_2) := (blk_cell BK130.out 2).trans rfl; have hcz8_3 : w7.cell? ⟨gb130, 3, none⟩ = some (.int .u64 a0_3) := (blk_cell BK130.out 3).trans rfl; have hcz8_4 : w7.cell? ⟨gb130, 4, none⟩ = some (.int .u64 a0_4) := (blk_cell BK130.out 4).trans rfl; have hfz8_0 := blk_frozen BK130.out 0; have hfz8_1 := blk_frozen BK130.out 1; have hfz8_2 := blk_frozen BK130.out 2; have hfz8_3 := blk_frozen BK130.out 3; have hfz8_4 := blk_frozen BK130.out 4) | ((with_reducible refine gate_callee (f := 16) rfl ?_); refine goesL_ (some 5) rfl rfl Tryz.func16 (by kernel_rfl) rfl #[.agg #[.bool true, .string a0_1, .string a0_2, .int .u64 a0_3, .int .u64 a0_4]] rfl (by (try simp only [List.map_toArray, List.map_cons, List.map_nil]); first | done | rfl | (simp only [List.length_drop, List.length_take]; rfl)) ?_; (with_reducible refine (paymasterref07_MayLeaf.calls k true a0_1 a0_2 a0_3 a0_4 true _ A2.out).mono ?_); rintro e w9 ⟨rfl, hb⟩; refine ⟨_, rfl, ?_⟩; have n0_ := aM' (blk_below (g := gb130) (o := .cells #[.bool true, .string a0_1, .string a0_2, .int .u64 a0_3, .int .u64 a0_4] 34 (0, 0)) (by (with_reducible repeat (first | refine blk_drewN ?_ _ | refine blk_drew ?_ | refine blk_alloc ?_ _)); exact BK130.out) hb); have n1_ := aM' (below_step (by repeat (first | (with_reducible first | exact HB.out | apply below_alloc | apply pw_below_drewN | apply below_drew1 | refine below_set ?_ GE130.out) | exact HB.out)) hb); clear BK130; clear HB; have BK130 := n0_; have HB := n1_; clear n0_ n1_; (try clear hb); (try clear hb2); (try clear hk); (try clear hi); have hcz10_0 : w9.cell? ⟨gb130, 0, none⟩ = some (.bool true) := (blk_cell BK130.out 0).trans rfl; have hcz10_1 : w9.cell? ⟨gb130, 1, none⟩ = some (.string a0_1) := (blk_cell BK130.out 1).trans rfl; have hcz10_2 : w9.cell? ⟨gb130, 2, none⟩ = some (.string a0_2) := (blk_cell BK130.out 2).trans rfl; have hcz10_3 : w9.cell? ⟨gb130, 3, none⟩ = some (.int .u64 a0_3) := (blk_cell BK130.out 3).trans rfl; have hcz10_4 : w9.cell? ⟨gb130, 4, none⟩ = some (.int .u64 a0_4) := (blk_cell BK130.out 4).trans rfl; have hfz10_0 := blk_frozen BK130.out 0; have hfz10_1 := blk_frozen BK130.out 1; have hfz10_2 := blk_frozen BK130.out 2; have hfz10_3 := blk_frozen BK130.out 3; have hfz10_4 := blk_frozen BK130.out 4) | ((with_reducible refine gate_dst (N := 11) rfl ?_); refine Kd.R_lit (Kd.int .u8) _ 5 ?hg (N := 11) ?hd (xs := ([((a0_2.size : Int)) % 256] : List Int)) (inner := [.int .u8 (((a0_2.size : Int)) % 256)]) (ok := fun _ => True) (okp := fun _ => True) ?hr ?hp (fun _ hk => hk) trivial (Below.refl _ _) (Nat.le_refl _) (by simp) ?_; (case hd => rfl); (case hg => rfl); (case hr => first | (go_simp; done) | (go_simp; rfl)); (case hp => exact (Reps.one (show Kd.M (Kd.int .u8) _ _ _ (((a0_2.size : Int)) % 256) [.int .u8 (((a0_2.size : Int)) % 256)] from rfl) (Reps.none _ _))); intro v133 w11 ho12 hb hg_ hnew_; clear hg_ hnew_; (first | rw [← Ny132.out] at ho12 | (simp only [Int.reduceToNat] at ho12; rw [← Ny132.out] at ho12)); have n0_ := aM' (Kd.R_lower ho12 (below_size (by repeat (first | (with_reducible first | exact HB.out | apply below_alloc | apply pw_below_drewN | apply below_drew1 | refine below_set ?_ GE130.out) | exact HB.out)))); have n1_ := aM' (blk_below (g := gb130) (o := .cells #[.bool true, .string a0_1, .string a0_2, .int .u64 a0_3, .int .u64 a0_4] 34 (0, 0)) (by (with_reducible repeat (first | refine blk_drewN ?_ _ | refine blk_drew ?_ | refine blk_alloc ?_ _)); exact BK130.out) hb); have n2_ := aM' (below_step (by repeat (first | (with_reducible first | exact HB.out | apply below_alloc | apply pw_below_drewN | apply below_drew1 | refine below_set ?_ GE130.out) | exact HB.out)) hb); clear BK130; clear HB; have HO134 := n0_; have BK130 := n1_; have HB := n2_; clear n0_ n1_ n2_; clear hb ho12; have hcv13 := own_string (P := Tryz.prog) Tryz.underlying96 Tryz.underlying5 Tryz.underlying9 (Kd.own_of_R HO134.out); have hcz14_0 : w11.cell? ⟨gb130, 0, none⟩ = some (.bool true) := (blk_cell BK130.out 0).trans rfl; have hcz14_1 : w11.cell? ⟨gb130, 1, none⟩ = some (.string a0_1) := (blk_cell BK130.out 1).trans rfl; have hcz14_2 : w11.cell? ⟨gb130, 2, none⟩ = some (.string a0_2) := (blk_cell BK130.out 2).trans rfl; have hcz14_3 : w11.cell? ⟨gb130, 3, none⟩ = some (.int .u64 a0_3) := (blk_cell BK130.out 3).trans rfl; have hcz14_4 : w11.cell? ⟨gb130, 4, none⟩ = some (.int .u64 a0_4) := (blk_cell BK130.out 4).trans rfl; have hfz14_0 := blk_frozen BK130.out 0; have hfz14_1 := blk_frozen BK130.out 1; have hfz14_2 := blk_frozen BK130.out 2; have hfz14_3 := blk_frozen BK130.out 3; have hfz14_4 := blk_frozen BK130.out 4))
     go_ret
     exact ⟨by first | rfl | (simp [errW_none, errW_some] <;> rfl) | (simp [*, errW_none, errW_some] <;> rfl), by repeat (first | (with_reducible first | exact HB.out | apply below_alloc | apply pw_below_drewN | apply below_drew1 | refine below_set ?_ GE130.out) | exact HB.out)⟩
    ·
     rw [if_neg c6] at H
     exact absurd H (by simp)
   ·
    replace c5 := Bool.eq_false_iff.mpr c5
    subst c5
    have H1 : ((some (([0, ((a0_1.size : Int)) % 256] : List Int) : List Int)).bind fun y135 => (if (strOfNums y135).size + a0_1.size ≤ 9223372036854775807 then (if ((strOfNums y135) ++ a0_1).size + ((strOfNums y132) ++ a0_2).size ≤ 9223372036854775807 then ((paymasterref01_Bytes.f k a0_3 a0_4).bind fun t138 => (if (((strOfNums y135) ++ a0_1) ++ ((strOfNums y132) ++ a0_2)).size + t138.size ≤ 9223372036854775807 then (some ((((strOfNums y135) ++ a0_1) ++ ((strOfNums y132) ++ a0_2)) ++ t138)) else (none))) else (none)) else (none))) = some r := by rw [if_neg (show ¬ (false = true) by decide)] at H; exact H
    clear H
    have H := H1
    clear H1
    obtain ⟨y135, hy135⟩ : ∃ y_ : List Int, y_ = (([0, ((a0_1.size : Int)) % 256] : List Int)) := ⟨_, rfl⟩
    replace H : (if (strOfNums y135).size + a0_1.size ≤ 9223372036854775807 then (if ((strOfNums y135) ++ a0_1).size + ((strOfNums y132) ++ a0_2).size ≤ 9223372036854775807 then ((paymasterref01_Bytes.f k a0_3 a0_4).bind fun t138 => (if (((strOfNums y135) ++ a0_1) ++ ((strOfNums y132) ++ a0_2)).size + t138.size ≤ 9223372036854775807 then (some ((((strOfNums y135) ++ a0_1) ++ ((strOfNums y132) ++ a0_2)) ++ t138)) else (none))) else (none)) else (none)) = some r := by first | (rw [hy135]; with_reducible exact H) | (have H2_ := (Option.bind_some _ _).symm.trans H; rw [hy135]; with_reducible exact H2_) | (have H2_ := (Option.bind_some _ _).symm.trans H; with_reducible exact H2_) | with_reducible exact H | (rw [hy135]; exact H) | exact H
    have Ny135 := aM' hy135
    clear hy135
    by_cases c15 : (strOfNums y135).size + a0_1.size ≤ 9223372036854775807
    ·
     rw [if_pos c15] at H
     have c15b0 := eq_true c15
     have c15b1 : decide ((strOfNums y135).size + a0_1.size ≤ 9223372036854775807) = true := decide_eq_true c15
     try have c15b2 : (9223372036854775807 < (strOfNums y135).size + a0_1.size) = False := eq_false (Nat.not_lt.2 c15)
     try (have c15b9 := c15; simp only [ByteArray.size_append, ba_size, List.length_cons, List.length_nil, Nat.zero_add, Nat.reduceAdd] at c15b9; have c15b8 := eq_false (Nat.not_lt.2 c15b9))
     by_cases c16 : ((strOfNums y135) ++ a0_1).size + ((strOfNums y132) ++ a0_2).size ≤ 9223372036854775807
     ·
      rw [if_pos c16] at H
      have c16b0 := eq_true c16
      have c16b1 : decide (((strOfNums y135) ++ a0_1).size + ((strOfNums y132) ++ a0_2).size ≤ 9223372036854775807) = true := decide_eq_true c16
      try have c16b2 : (9223372036854775807 < ((strOfNums y135) ++ a0_1).size + ((strOfNums y132) ++ a0_2).size) = False := eq_false (Nat.not_lt.2 c16)
      try (have c16b9 := c16; simp only [ByteArray.size_append, ba_size, List.length_cons, List.length_nil, Nat.zero_add, Nat.reduceAdd] at c16b9; have c16b8 := eq_false (Nat.not_lt.2 c16b9))
      replace H := Option.bind_eq_some_iff.mp H
      obtain ⟨t138, A170, H⟩ := H
      replace H : (if (((strOfNums y135) ++ a0_1) ++ ((strOfNums y132) ++ a0_2)).size + t138.size ≤ 9223372036854775807 then (some ((((strOfNums y135) ++ a0_1) ++ ((strOfNums y132) ++ a0_2)) ++ t138)) else (none)) = some r := H
      have A17 := aM' A170
      clear A170
      by_cases c18 : (((strOfNums y135) ++ a0_1) ++ ((strOfNums y132) ++ a0_2)).size + t138.size ≤ 9223372036854775807
      ·
       rw [if_pos c18] at H
       have c18b0 := eq_true c18
       have c18b1 : decide ((((strOfNums y135) ++ a0_1) ++ ((strOfNums y132) ++ a0_2)).size + t138.size ≤ 9223372036854775807) = true := decide_eq_true c18
       try have c18b2 : (9223372036854775807 < (((strOfNums y135) ++ a0_1) ++ ((strOfNums y132) ++ a0_2)).size + t138.size) = False := eq_false (Nat.not_lt.2 c18)
       try (have c18b9 := c18; simp only [ByteArray.size_append, ba_size, List.length_cons, List.length_nil, Nat.zero_add, Nat.reduceAdd] at c18b9; have c18b8 := eq_false (Nat.not_lt.2 c18b9))
       obtain rfl := Option.some.inj H
       go_enter Tryz.func46, Tryz.ntmps46
       try go_wp2_with (first | ((with_reducible refine gate_dst (N := 1) rfl ?_); refine box_event ?hg (N := 1) ?hd (cs := #[.bool false, .string a0_1, .string a0_2, .int .u64 a0_3, .int .u64 a0_4]) (t := 34) ?hr ?_; (case hd => rfl); (case hg => rfl); (case hr => first | (go_simp; done) | (go_simp; rfl)); intro gb130 hg w19 hbox hb; have n0_ := aM' (below_step (by repeat (first | (with_reducible first | exact HB.out | apply below_alloc | apply pw_below_drewN | apply below_drew1) | exact HB.out)) hb); have n1_ := aM' (hbox); have n2_ := aM' ((by rw [hg]; exact (below_size (by repeat (first | (with_reducible first | exact HB.out | apply below_alloc | apply pw_below_drewN | apply below_drew1) | exact HB.out))) : w.heap.size ≤ gb130)); have n3_ := aM' ((by rw [hg]; exact (below_size (by repeat (first | (with_reducible first | exact HB.out | apply below_alloc | apply pw_below_drewN | apply below_drew1) | exact HB.out))) : w.heap.size ≤ gb130)); clear HB; have HB := n0_; have BK130 := n1_; have GW130 := n2_; have GE130 := n3_; clear n0_ n1_ n2_ n3_; clear hb hbox hg; have hcz20_0 : w19.cell? ⟨gb130, 0, none⟩ = some (.bool false) := (blk_cell BK130.out 0).trans rfl; have hcz20_1 : w19.cell? ⟨gb130, 1, none⟩ = some (.string a0_1) := (blk_cell BK130.out 1).trans rfl; have hcz20_2 : w19.cell? ⟨gb130, 2, none⟩ = some (.string a0_2) := (blk_cell BK130.out 2).trans rfl; have hcz20_3 : w19.cell? ⟨gb130, 3, none⟩ = some (.int .u64 a0_3) := (blk_cell BK130.out 3).trans rfl; have hcz20_4 : w19.cell? ⟨gb130, 4, none⟩ = some (.int .u64 a0_4) := (blk_cell BK130.out 4).trans rfl; have hfz20_0 := blk_frozen BK130.out 0; have hfz20_1 := blk_frozen BK130.out 1; have hfz20_2 := blk_frozen BK130.out 2; have hfz20_3 := blk_frozen BK130.out 3; have hfz20_4 := blk_frozen BK130.out 4) | ((with_reducible refine gate_callee (f := 16) rfl ?_); refine goesL_ (some 5) rfl rfl Tryz.func16 (by kernel_rfl) rfl #[.agg #[.bool false, .string a0_1, .string a0_2, .int .u64 a0_3, .int .u64 a0_4]] rfl (by (try simp only [List.map_toArray, List.map_cons, List.map_nil]); first | done | rfl | (simp only [List.length_drop, List.length_take]; rfl)) ?_; (with_reducible refine (paymasterref07_MayLeaf.calls k false a0_1 a0_2 a0_3 a0_4 true _ A2.out).mono ?_); rintro e w21 ⟨rfl, hb⟩; refine ⟨_, rfl, ?_⟩; have n0_ := aM' (blk_below (g := gb130) (o := .cells #[.bool false, .string a0_1, .string a0_2, .int .u64 a0_3, .int .u64 a0_4] 34 (0, 0)) (by (with_reducible repeat (first | refine blk_drewN ?_ _ | refine blk_drew ?_ | refine blk_alloc ?_ _)); exact BK130.out) hb); have n1_ := aM' (below_step (by repeat (first | (with_reducible first | exact HB.out | apply below_alloc | apply pw_below_drewN | apply below_drew1 | refine below_set ?_ GE130.out) | exact HB.out)) hb); clear BK130; clear HB; have BK130 := n0_; have HB := n1_; clear n0_ n1_; (try clear hb); (try clear hb2); (try clear hk); (try clear hi); have hcz22_0 : w21.cell? ⟨gb130, 0, none⟩ = some (.bool false) := (blk_cell BK130.out 0).trans rfl; have hcz22_1 : w21.cell? ⟨gb130, 1, none⟩ = some (.string a0_1) := (blk_cell BK130.out 1).trans rfl; have hcz22_2 : w21.cell? ⟨gb130, 2, none⟩ = some (.string a0_2) := (blk_cell BK130.out 2).trans rfl; have hcz22_3 : w21.cell? ⟨gb130, 3, none⟩ = some (.int .u64 a0_3) := (blk_cell BK130.out 3).trans rfl; have hcz22_4 : w21.cell? ⟨gb130, 4, none⟩ = some (.int .u64 a0_4) := (blk_cell BK130.out 4).trans rfl; have hfz22_0 := blk_frozen BK130.out 0; have hfz22_1 := blk_frozen BK130.out 1; have hfz22_2 := blk_frozen BK130.out 2; have hfz22_3 := blk_frozen BK130.out 3; have hfz22_4 := blk_frozen BK130.out 4) | ((with_reducible refine gate_dst (N := 11) rfl ?_); refine Kd.R_lit (Kd.int .u8) _ 5 ?hg (N := 11) ?hd (xs := ([((a0_2.size : Int)) % 256] : List Int)) (inner := [.int .u8 (((a0_2.size : Int)) % 256)]) (ok := fun _ => True) (okp := fun _ => True) ?hr ?hp (fun _ hk => hk) trivial (Below.refl _ _) (Nat.le_refl _) (by simp) ?_; (case hd => rfl); (case hg => rfl); (case hr => first | (go_simp; done) | (go_simp; rfl)); (case hp => exact (Reps.one (show Kd.M (Kd.int .u8) _ _ _ (((a0_2.size : Int)) % 256) [.int .u8 (((a0_2.size : Int)) % 256)] from rfl) (Reps.none _ _))); intro v133 w23 ho24 hb hg_ hnew_; clear hg_ hnew_; (first | rw [← Ny132.out] at ho24 | (simp only [Int.reduceToNat] at ho24; rw [← Ny132.out] at ho24)); have n0_ := aM' (Kd.R_lower ho24 (below_size (by repeat (first | (with_reducible first | exact HB.out | apply below_alloc | apply pw_below_drewN | apply below_drew1 | refine below_set ?_ GE130.out) | exact HB.out)))); have n1_ := aM' (blk_below (g := gb130) (o := .cells #[.bool false, .string a0_1, .string a0_2, .int .u64 a0_3, .int .u64 a0_4] 34 (0, 0)) (by (with_reducible repeat (first | refine blk_drewN ?_ _ | refine blk_drew ?_ | refine blk_alloc ?_ _)); exact BK130.out) hb); have n2_ := aM' (below_step (by repeat (first | (with_reducible first | exact HB.out | apply below_alloc | apply pw_below_drewN | apply below_drew1 | refine below_set ?_ GE130.out) | exact HB.out)) hb); clear BK130; clear HB; have HO134 := n0_; have BK130 := n1_; have HB := n2_; clear n0_ n1_ n2_; clear hb ho24; have hcv25 := own_string (P := Tryz.prog) Tryz.underlying96 Tryz.underlying5 Tryz.underlying9 (Kd.own_of_R HO134.out); have hcz26_0 : w23.cell? ⟨gb130, 0, none⟩ = some (.bool false) := (blk_cell BK130.out 0).trans rfl; have hcz26_1 : w23.cell? ⟨gb130, 1, none⟩ = some (.string a0_1) := (blk_cell BK130.out 1).trans rfl; have hcz26_2 : w23.cell? ⟨gb130, 2, none⟩ = some (.string a0_2) := (blk_cell BK130.out 2).trans rfl; have hcz26_3 : w23.cell? ⟨gb130, 3, none⟩ = some (.int .u64 a0_3) := (blk_cell BK130.out 3).trans rfl; have hcz26_4 : w23.cell? ⟨gb130, 4, none⟩ = some (.int .u64 a0_4) := (blk_cell BK130.out 4).trans rfl; have hfz26_0 := blk_frozen BK130.out 0; have hfz26_1 := blk_frozen BK130.out 1; have hfz26_2 := blk_frozen BK130.out 2; have hfz26_3 := blk_frozen BK130.out 3; have hfz26_4 := blk_frozen BK130.out 4))
       have n0_ := aM' (Kd.R_drew HO134.out)
       have n1_ := aM' (blk_drew BK130.out)
       have n2_ := aM' (below_drew1 HB.out)
       clear HO134
       clear BK130
       clear HB
       have HO134 := n0_
       have BK130 := n1_
       have HB := n2_
       clear n0_ n1_ n2_
       refine start_ (n := 16) (S := fun w' => w'.cell? ⟨gb130, 0, none⟩ = some (.bool false) ∧ w'.cell? ⟨gb130, 1, none⟩ = some (.string a0_1) ∧ w'.cell? ⟨gb130, 2, none⟩ = some (.string a0_2) ∧ w'.cell? ⟨gb130, 3, none⟩ = some (.int .u64 a0_3) ∧ w'.cell? ⟨gb130, 4, none⟩ = some (.int .u64 a0_4)) (ds := []) #[false, false, false, false, false, false, false, false, false, false, false, false, false, false, false, false] (by kernel_rfl) rfl rfl ⟨(blk_cell BK130.out 0).trans rfl, (blk_cell BK130.out 1).trans rfl, (blk_cell BK130.out 2).trans rfl, (blk_cell BK130.out 3).trans rfl, (blk_cell BK130.out 4).trans rfl⟩ (fun hHeld => ?_); refine with_tabW paymasterref07_LeafText.tab6 paymasterref07_LeafText.bits6 (fun HT_ HW_ => ?_)
       generalize w23.drew = w27 at HO134 BK130 HB hHeld ⊢
       refine pure_ (i := 0) (N := some 20) (v := ?_) (a' := ?_) #[true, false, false, false, false, false, false, false, false, false, false, false, false, false, false, false] rfl rfl (any_of HT_.out (by kernel_rfl)) (fun _ _ _ h => h) (Or.inl ⟨by rfl, ?_⟩) ?_ ?_
       rotate_left
       ·
        intro w'
        go_simp
        with_reducible rfl
       rotate_left
       ·
        simp only [Act.put, List.setIfInBounds_toArray, List.set_cons_zero, List.set_cons_succ, i64_w, i32_w]
        rfl
       refine pure_ (i := 6) (N := some 26) (v := ?_) (a' := ?_) #[true, false, false, false, false, false, true, false, false, false, false, false, false, false, false, false] rfl rfl (any_of HT_.out (by kernel_rfl)) (fun _ _ _ h => h) (Or.inl ⟨by rfl, ?_⟩) ?_ ?_
       rotate_left
       ·
        intro w'
        go_simp
        with_reducible rfl
       rotate_left
       ·
        simp only [Act.put, List.setIfInBounds_toArray, List.set_cons_zero, List.set_cons_succ, i64_w, i32_w]
        rfl
       refine pure_ (i := 9) (N := some 29) (v := ?_) (a' := ?_) #[true, false, false, false, false, false, true, false, false, true, false, false, false, false, false, false] rfl rfl (any_of HT_.out (by kernel_rfl)) (fun _ _ _ h => h) (Or.inl ⟨by rfl, ?_⟩) ?_ ?_
       rotate_left
       ·
        intro w'
        go_simp
        with_reducible rfl
       rotate_left
       ·
        simp only [Act.put, List.setIfInBounds_toArray, List.set_cons_zero, List.set_cons_succ, i64_w, i32_w]
        rfl
       refine pure_ (i := 11) (N := some 31) (v := ?_) (a' := ?_) #[true, false, false, false, false, false, true, false, false, true, false, true, false, false, false, false] rfl rfl (any_of HT_.out (by kernel_rfl)) (fun _ _ _ h => h) (Or.inl ⟨by rfl, ?_⟩) ?_ ?_
       rotate_left
       ·
        intro w'
        go_simp
        with_reducible rfl
       rotate_left
       ·
        simp only [Act.put, List.setIfInBounds_toArray, List.set_cons_zero, List.set_cons_succ, i64_w, i32_w]
        rfl
       refine take_ (i := 1) (N := some 21) (v := ?_) (a' := ?_) #[true, true, false, false, false, false, true, false, false, true, false, true, false, false, false, false] rfl rfl (take_ofW HT_.out HW_.out (by kernel_rfl)) (fun _ _ _ h => h) (Or.inl ⟨by rfl, ?_⟩) hHeld ?_ ?_
       rotate_left
       ·
        rintro w' ⟨s0, s1, s2, s3, s4⟩
        go_simp
        with_reducible rfl
       rotate_left
       ·
        simp only [Act.put, List.setIfInBounds_toArray, List.set_cons_zero, List.set_cons_succ, i64_w, i32_w]
        rfl
       refine pure_ (i := 2) (N := some 22) (v := ?_) (a' := ?_) #[true, true, true, false, false, false, true, false, false, true, false, true, false, false, false, false] rfl rfl (any_of HT_.out (by kernel_rfl)) (fun _ _ _ h => h) (Or.inl ⟨by rfl, ?_⟩) ?_ ?_
       rotate_left
       ·
        intro w'
        go_simp
        with_reducible rfl
       rotate_left
       ·
        simp only [Act.put, List.setIfInBounds_toArray, List.set_cons_zero, List.set_cons_succ, i64_w, i32_w]
        rfl
       refine pure_ (i := 3) (N := some 23) (v := ?_) (a' := ?_) #[true, true, true, true, false, false, true, false, false, true, false, true, false, false, false, false] rfl rfl (any_of HT_.out (by kernel_rfl)) (fun _ _ _ h => h) (Or.inl ⟨by rfl, ?_⟩) ?_ ?_
       rotate_left
       ·
        intro w'
        go_simp
        with_reducible rfl
       rotate_left
       ·
        simp only [Act.put, List.setIfInBounds_toArray, List.set_cons_zero, List.set_cons_succ, i64_w, i32_w]
        rfl
       refine take_ (i := 7) (N := some 27) (v := ?_) (a' := ?_) #[true, true, true, true, false, false, true, true, false, true, false, true, false, false, false, false] rfl rfl (take_ofW HT_.out HW_.out (by kernel_rfl)) (fun _ _ _ h => h) (Or.inl ⟨by rfl, ?_⟩) hHeld ?_ ?_
       rotate_left
       ·
        rintro w' ⟨s0, s1, s2, s3, s4⟩
        go_simp
        with_reducible rfl
       rotate_left
       ·
        simp only [Act.put, List.setIfInBounds_toArray, List.set_cons_zero, List.set_cons_succ, i64_w, i32_w]
        rfl
       refine take_ (i := 12) (N := some 32) (v := ?_) (a' := ?_) #[true, true, true, true, false, false, true, true, false, true, false, true, true, false, false, false] rfl rfl (take_ofW HT_.out HW_.out (by kernel_rfl)) (fun _ _ _ h => h) (Or.inl ⟨by rfl, ?_⟩) hHeld ?_ ?_
       rotate_left
       ·
        rintro w' ⟨s0, s1, s2, s3, s4⟩
        go_simp
        with_reducible rfl
       rotate_left
       ·
        simp only [Act.put, List.setIfInBounds_toArray, List.set_cons_zero, List.set_cons_succ, i64_w, i32_w]
        rfl
       refine join_ (σ := Value) 2 #[true, true, true, true, true, true, true, true, true, true, true, true, true, true, false, false] (fun s_ => [(24, s_), (25, .string (strOfNums y135)), (33, .string t138), (28, .string ((strOfNums y135) ++ a0_1)), (30, .string (((strOfNums y135) ++ a0_1) ++ ((strOfNums y132) ++ a0_2)))]) (fun s_ w' => (w'.cell? ⟨gb130, 0, none⟩ = some (.bool false) ∧ w'.cell? ⟨gb130, 1, none⟩ = some (.string a0_1) ∧ w'.cell? ⟨gb130, 2, none⟩ = some (.string a0_2) ∧ w'.cell? ⟨gb130, 3, none⟩ = some (.int .u64 a0_3) ∧ w'.cell? ⟨gb130, 4, none⟩ = some (.int .u64 a0_4)) ∧ (Kd.R (Kd.int .u8) 5 w' w.heap.size (fun k_ => some k_ ≠ (s_ : Value).ownBlock) v133 y132) ∧ (Kd.R (Kd.int .u8) 5 w' w.heap.size (fun k_ => some k_ ≠ (v133 : Value).ownBlock) s_ y135) ∧ (w'.heap[gb130]? = some (.cells #[.bool false, .string a0_1, .string a0_2, .int .u64 a0_3, .int .u64 a0_4] 34 (0, 0))) ∧ (Below w.heap.size w w')) ?_ ?_
       rotate_left
       ·
        intro hCont
        refine two_ (i := 4) (j := 13) (Ni := some 24) (Nj := some 33) #[true, true, true, true, true, false, true, true, false, true, false, true, true, false, false, false] #[true, true, true, true, false, false, true, true, false, true, false, true, true, true, false, false] rfl rfl rfl rfl (two_of HT_.out (by kernel_rfl)) (by decide) (by decide) (fun K hK => ?_) (fun K hK => ?_)
        ·
         skip
         refine Kd.R_lit_step (Kd.int .u8) _ 5 ?hg (N := 24) ?hd (xs := ([0, ((a0_1.size : Int)) % 256] : List Int)) (inner := [.int .u8 0, .int .u8 (((a0_1.size : Int)) % 256)]) (ok := fun _ => True) (okp := fun _ => True) ?hr ?hp (fun _ hk => hk) trivial (Below.refl _ _) (Nat.le_refl _) (by simp) ?_; (case hd => rfl); (case hg => rfl); (case hr => first | (go_simp; done) | (go_simp; rfl)); (case hp => exact (Reps.one (show Kd.M (Kd.int .u8) _ _ _ 0 [.int .u8 0] from rfl) (Reps.one (show Kd.M (Kd.int .u8) _ _ _ (((a0_1.size : Int)) % 256) [.int .u8 (((a0_1.size : Int)) % 256)] from rfl) (Reps.none _ _))))
         intro v136 w28 ho29 hb hg_ hnew_
         clear hg_ hnew_
         (first | rw [← Ny135.out] at ho29 | (simp only [Int.reduceToNat] at ho29; rw [← Ny135.out] at ho29))
         have n0_ := aM' (Kd.R_elder' (by (with_reducible repeat (first | apply Kd.R_alloc | apply Kd.R_drewN | apply Kd.R_drew)); exact HO134.out) (Kd.R_base ho29) hb)
         have n1_ := aM' (Kd.R_lower (Kd.R_new' ho29 (Kd.R_lt (by (with_reducible repeat (first | apply Kd.R_alloc | apply Kd.R_drewN | apply Kd.R_drew)); exact HO134.out))) (below_size (by repeat (first | (with_reducible first | exact HB.out | apply below_alloc | apply pw_below_drewN | apply below_drew1 | refine below_set ?_ GE130.out) | exact HB.out))))
         have n2_ := aM' (blk_below (g := gb130) (o := .cells #[.bool false, .string a0_1, .string a0_2, .int .u64 a0_3, .int .u64 a0_4] 34 (0, 0)) (by (with_reducible repeat (first | refine blk_drewN ?_ _ | refine blk_drew ?_ | refine blk_alloc ?_ _)); exact BK130.out) hb)
         have n3_ := aM' (below_step (by repeat (first | (with_reducible first | exact HB.out | apply below_alloc | apply pw_below_drewN | apply below_drew1 | refine below_set ?_ GE130.out) | exact HB.out)) hb)
         clear HO134
         clear BK130
         clear HB
         have HO134 := n0_
         have HO137 := n1_
         have BK130 := n2_
         have HB := n3_
         clear n0_ n1_ n2_ n3_
         clear hb ho29
         refine hK.out _ _ ⟨(blk_cell BK130.out 0).trans rfl, (blk_cell BK130.out 1).trans rfl, (blk_cell BK130.out 2).trans rfl, (blk_cell BK130.out 3).trans rfl, (blk_cell BK130.out 4).trans rfl⟩ (fun hHeld => ?_)
         clear hK K
         refine norm_ (a' := ?_) ?_ ?_
         rotate_left
         ·
          show Act.put _ (some 24) _ = _
          simp only [Act.put, List.setIfInBounds_toArray, List.set_cons_zero, List.set_cons_succ, i64_w, i32_w]
          rfl
         refine two_ (i := 5) (j := 13) (Ni := some 25) (Nj := some 33) #[true, true, true, true, true, true, true, true, false, true, false, true, true, false, false, false] #[true, true, true, true, true, false, true, true, false, true, false, true, true, true, false, false] rfl rfl rfl rfl (two_of HT_.out (by kernel_rfl)) (by decide) (by decide) (fun K hK => ?_) (fun K hK => ?_)
         ·
          skip
          have hcv30 := own_string (P := Tryz.prog) Tryz.underlying96 Tryz.underlying5 Tryz.underlying9 (Kd.own_of_R HO137.out)
          refine value_ (w1 := ?_) (v := ?_) (by rfl) rfl ?_ ?_
          rotate_left 2
          ·
           go_simp
           constructor
           ·
            rfl
           ·
            rfl
          clear hcv30
          refine hK.out _ _ ⟨(blk_cell BK130.out 0).trans rfl, (blk_cell BK130.out 1).trans rfl, (blk_cell BK130.out 2).trans rfl, (blk_cell BK130.out 3).trans rfl, (blk_cell BK130.out 4).trans rfl⟩ (fun hHeld => ?_)
          clear hK K
          refine norm_ (a' := ?_) ?_ ?_
          rotate_left
          ·
           show Act.put _ (some 25) _ = _
           simp only [Act.put, List.setIfInBounds_toArray, List.set_cons_zero, List.set_cons_succ, i64_w, i32_w]
           rfl
          refine pure_ (i := 8) (N := some 28) (v := ?_) (a' := ?_) #[true, true, true, true, true, true, true, true, true, true, false, true, true, false, false, false] rfl rfl (any_of HT_.out (by kernel_rfl)) (fun _ _ _ h => h) (Or.inl ⟨by rfl, ?_⟩) ?_ ?_
          rotate_left
          ·
           intro w'
           go_simp
           with_reducible rfl
          rotate_left
          ·
           simp only [Act.put, List.setIfInBounds_toArray, List.set_cons_zero, List.set_cons_succ, i64_w, i32_w]
           rfl
          refine pure_ (i := 10) (N := some 30) (v := ?_) (a' := ?_) #[true, true, true, true, true, true, true, true, true, true, true, true, true, false, false, false] rfl rfl (any_of HT_.out (by kernel_rfl)) (fun _ _ _ h => h) (Or.inl ⟨by rfl, ?_⟩) ?_ ?_
          rotate_left
          ·
           intro w'
           go_simp
           with_reducible rfl
          rotate_left
          ·
           simp only [Act.put, List.setIfInBounds_toArray, List.set_cons_zero, List.set_cons_succ, i64_w, i32_w]
           rfl
          refine one_ (i := 13) (N := some 33) #[true, true, true, true, true, true, true, true, true, true, true, true, true, true, false, false] rfl rfl (one_of HT_.out (by kernel_rfl)) (by decide) (fun K hK => ?_)
          refine goes_ Tryz.func63 (by kernel_rfl) rfl #[.agg #[.int .u64 a0_3, .int .u64 a0_4]] (by rfl) rfl rfl (by (try simp only [List.map_toArray, List.map_cons, List.map_nil]); first | done | rfl | (simp only [List.length_drop, List.length_take]; rfl)) ?_
          with_reducible refine (paymasterref01_Bytes.calls k a0_3 a0_4 t138 _ A17.out).mono ?_
          rintro e w31 ⟨rfl, hb⟩
          refine ⟨_, rfl, ?_⟩
          have n0_ := aM' (Kd.R_below (by (with_reducible repeat (first | apply Kd.R_alloc | apply Kd.R_drewN | apply Kd.R_drew)); exact HO134.out) hb)
          have n1_ := aM' (Kd.R_below (by (with_reducible repeat (first | apply Kd.R_alloc | apply Kd.R_drewN | apply Kd.R_drew)); exact HO137.out) hb)
          have n2_ := aM' (blk_below (g := gb130) (o := .cells #[.bool false, .string a0_1, .string a0_2, .int .u64 a0_3, .int .u64 a0_4] 34 (0, 0)) (by (with_reducible repeat (first | refine blk_drewN ?_ _ | refine blk_drew ?_ | refine blk_alloc ?_ _)); exact BK130.out) hb)
          have n3_ := aM' (below_step (by repeat (first | (with_reducible first | exact HB.out | apply below_alloc | apply pw_below_drewN | apply below_drew1 | refine below_set ?_ GE130.out) | exact HB.out)) hb)
          clear HO134
          clear HO137
          clear BK130
          clear HB
          have HO134 := n0_
          have HO137 := n1_
          have BK130 := n2_
          have HB := n3_
          clear n0_ n1_ n2_ n3_
          (try clear hb)
          (try clear hb2)
          (try clear hk)
          (try clear hi)
          refine hK.out _ _ ⟨(blk_cell BK130.out 0).trans rfl, (blk_cell BK130.out 1).trans rfl, (blk_cell BK130.out 2).trans rfl, (blk_cell BK130.out 3).trans rfl, (blk_cell BK130.out 4).trans rfl⟩ (fun hHeld => ?_)
          clear hK K
          refine norm_ (a' := ?_) ?_ ?_
          rotate_left
          ·
           show Act.put _ (some 33) _ = _
           simp only [Act.put, List.setIfInBounds_toArray, List.set_cons_zero, List.set_cons_succ, i64_w, i32_w]
           rfl
          exact norm_ (by simp only [putAll, Act.put, List.setIfInBounds_toArray, List.set_cons_zero, List.set_cons_succ]) (hCont (v136) _ ⟨hHeld, (by (with_reducible repeat (first | apply Kd.R_alloc | apply Kd.R_drewN | apply Kd.R_drew)); exact Kd.R_mono HO134.out (fun _ hk => hk.2)), (by (with_reducible repeat (first | apply Kd.R_alloc | apply Kd.R_drewN | apply Kd.R_drew)); exact Kd.R_mono HO137.out (fun _ hk => hk.2)), (by (with_reducible repeat (first | refine blk_drewN ?_ _ | refine blk_drew ?_ | refine blk_alloc ?_ _)); exact BK130.out), (by repeat (first | (with_reducible first | exact HB.out | apply below_alloc | apply pw_below_drewN | apply below_drew1 | refine below_set ?_ GE130.out) | exact HB.out))⟩)
         ·
          skip
          refine goes_ Tryz.func63 (by kernel_rfl) rfl #[.agg #[.int .u64 a0_3, .int .u64 a0_4]] (by rfl) rfl rfl (by (try simp only [List.map_toArray, List.map_cons, List.map_nil]); first | done | rfl | (simp only [List.length_drop, List.length_take]; rfl)) ?_
          with_reducible refine (paymasterref01_Bytes.calls k a0_3 a0_4 t138 _ A17.out).mono ?_
          rintro e w30 ⟨rfl, hb⟩
          refine ⟨_, rfl, ?_⟩
          have n0_ := aM' (Kd.R_below (by (with_reducible repeat (first | apply Kd.R_alloc | apply Kd.R_drewN | apply Kd.R_drew)); exact HO134.out) hb)
          have n1_ := aM' (Kd.R_below (by (with_reducible repeat (first | apply Kd.R_alloc | apply Kd.R_drewN | apply Kd.R_drew)); exact HO137.out) hb)
          have n2_ := aM' (blk_below (g := gb130) (o := .cells #[.bool false, .string a0_1, .string a0_2, .int .u64 a0_3, .int .u64 a0_4] 34 (0, 0)) (by (with_reducible repeat (first | refine blk_drewN ?_ _ | refine blk_drew ?_ | refine blk_alloc ?_ _)); exact BK130.out) hb)
          have n3_ := aM' (below_step (by repeat (first | (with_reducible first | exact HB.out | apply below_alloc | apply pw_below_drewN | apply below_drew1 | refine below_set ?_ GE130.out) | exact HB.out)) hb)
          clear HO134
          clear HO137
          clear BK130
          clear HB
          have HO134 := n0_
          have HO137 := n1_
          have BK130 := n2_
          have HB := n3_
          clear n0_ n1_ n2_ n3_
          (try clear hb)
          (try clear hb2)
          (try clear hk)
          (try clear hi)
          refine hK.out _ _ ⟨(blk_cell BK130.out 0).trans rfl, (blk_cell BK130.out 1).trans rfl, (blk_cell BK130.out 2).trans rfl, (blk_cell BK130.out 3).trans rfl, (blk_cell BK130.out 4).trans rfl⟩ (fun hHeld => ?_)
          clear hK K
          refine norm_ (a' := ?_) ?_ ?_
          rotate_left
          ·
           show Act.put _ (some 33) _ = _
           simp only [Act.put, List.setIfInBounds_toArray, List.set_cons_zero, List.set_cons_succ, i64_w, i32_w]
           rfl
          refine one_ (i := 5) (N := some 25) #[true, true, true, true, true, true, true, true, false, true, false, true, true, true, false, false] rfl rfl (one_of HT_.out (by kernel_rfl)) (by decide) (fun K hK => ?_)
          have hcv31 := own_string (P := Tryz.prog) Tryz.underlying96 Tryz.underlying5 Tryz.underlying9 (Kd.own_of_R HO137.out)
          refine value_ (w1 := ?_) (v := ?_) (by rfl) rfl ?_ ?_
          rotate_left 2
          ·
           go_simp
           constructor
           ·
            rfl
           ·
            rfl
          clear hcv31
          refine hK.out _ _ ⟨(blk_cell BK130.out 0).trans rfl, (blk_cell BK130.out 1).trans rfl, (blk_cell BK130.out 2).trans rfl, (blk_cell BK130.out 3).trans rfl, (blk_cell BK130.out 4).trans rfl⟩ (fun hHeld => ?_)
          clear hK K
          refine norm_ (a' := ?_) ?_ ?_
          rotate_left
          ·
           show Act.put _ (some 25) _ = _
           simp only [Act.put, List.setIfInBounds_toArray, List.set_cons_zero, List.set_cons_succ, i64_w, i32_w]
           rfl
          refine pure_ (i := 8) (N := some 28) (v := ?_) (a' := ?_) #[true, true, true, true, true, true, true, true, true, true, false, true, true, true, false, false] rfl rfl (any_of HT_.out (by kernel_rfl)) (fun _ _ _ h => h) (Or.inl ⟨by rfl, ?_⟩) ?_ ?_
          rotate_left
          ·
           intro w'
           go_simp
           with_reducible rfl
          rotate_left
          ·
           simp only [Act.put, List.setIfInBounds_toArray, List.set_cons_zero, List.set_cons_succ, i64_w, i32_w]
           rfl
          refine pure_ (i := 10) (N := some 30) (v := ?_) (a' := ?_) #[true, true, true, true, true, true, true, true, true, true, true, true, true, true, false, false] rfl rfl (any_of HT_.out (by kernel_rfl)) (fun _ _ _ h => h) (Or.inl ⟨by rfl, ?_⟩) ?_ ?_
          rotate_left
          ·
           intro w'
           go_simp
           with_reducible rfl
          rotate_left
          ·
           simp only [Act.put, List.setIfInBounds_toArray, List.set_cons_zero, List.set_cons_succ, i64_w, i32_w]
           rfl
          exact norm_ (by simp only [putAll, Act.put, List.setIfInBounds_toArray, List.set_cons_zero, List.set_cons_succ]) (hCont (v136) _ ⟨hHeld, (by (with_reducible repeat (first | apply Kd.R_alloc | apply Kd.R_drewN | apply Kd.R_drew)); exact Kd.R_mono HO134.out (fun _ hk => hk.2)), (by (with_reducible repeat (first | apply Kd.R_alloc | apply Kd.R_drewN | apply Kd.R_drew)); exact Kd.R_mono HO137.out (fun _ hk => hk.2)), (by (with_reducible repeat (first | refine blk_drewN ?_ _ | refine blk_drew ?_ | refine blk_alloc ?_ _)); exact BK130.out), (by repeat (first | (with_reducible first | exact HB.out | apply below_alloc | apply pw_below_drewN | apply below_drew1 | refine below_set ?_ GE130.out) | exact HB.out))⟩)
        ·
         skip
         refine goes_ Tryz.func63 (by kernel_rfl) rfl #[.agg #[.int .u64 a0_3, .int .u64 a0_4]] (by rfl) rfl rfl (by (try simp only [List.map_toArray, List.map_cons, List.map_nil]); first | done | rfl | (simp only [List.length_drop, List.length_take]; rfl)) ?_
         with_reducible refine (paymasterref01_Bytes.calls k a0_3 a0_4 t138 _ A17.out).mono ?_
         rintro e w28 ⟨rfl, hb⟩
         refine ⟨_, rfl, ?_⟩
         have n0_ := aM' (Kd.R_below (by (with_reducible repeat (first | apply Kd.R_alloc | apply Kd.R_drewN | apply Kd.R_drew)); exact HO134.out) hb)
         have n1_ := aM' (blk_below (g := gb130) (o := .cells #[.bool false, .string a0_1, .string a0_2, .int .u64 a0_3, .int .u64 a0_4] 34 (0, 0)) (by (with_reducible repeat (first | refine blk_drewN ?_ _ | refine blk_drew ?_ | refine blk_alloc ?_ _)); exact BK130.out) hb)
         have n2_ := aM' (below_step (by repeat (first | (with_reducible first | exact HB.out | apply below_alloc | apply pw_below_drewN | apply below_drew1 | refine below_set ?_ GE130.out) | exact HB.out)) hb)
         clear HO134
         clear BK130
         clear HB
         have HO134 := n0_
         have BK130 := n1_
         have HB := n2_
         clear n0_ n1_ n2_
         (try clear hb)
         (try clear hb2)
         (try clear hk)
         (try clear hi)
         refine hK.out _ _ ⟨(blk_cell BK130.out 0).trans rfl, (blk_cell BK130.out 1).trans rfl, (blk_cell BK130.out 2).trans rfl, (blk_cell BK130.out 3).trans rfl, (blk_cell BK130.out 4).trans rfl⟩ (fun hHeld => ?_)
         clear hK K
         refine norm_ (a' := ?_) ?_ ?_
         rotate_left
         ·
          show Act.put _ (some 33) _ = _
          simp only [Act.put, List.setIfInBounds_toArray, List.set_cons_zero, List.set_cons_succ, i64_w, i32_w]
          rfl
         refine one_ (i := 4) (N := some 24) #[true, true, true, true, true, false, true, true, false, true, false, true, true, true, false, false] rfl rfl (one_of HT_.out (by kernel_rfl)) (by decide) (fun K hK => ?_)
         refine Kd.R_lit_step (Kd.int .u8) _ 5 ?hg (N := 24) ?hd (xs := ([0, ((a0_1.size : Int)) % 256] : List Int)) (inner := [.int .u8 0, .int .u8 (((a0_1.size : Int)) % 256)]) (ok := fun _ => True) (okp := fun _ => True) ?hr ?hp (fun _ hk => hk) trivial (Below.refl _ _) (Nat.le_refl _) (by simp) ?_; (case hd => rfl); (case hg => rfl); (case hr => first | (go_simp; done) | (go_simp; rfl)); (case hp => exact (Reps.one (show Kd.M (Kd.int .u8) _ _ _ 0 [.int .u8 0] from rfl) (Reps.one (show Kd.M (Kd.int .u8) _ _ _ (((a0_1.size : Int)) % 256) [.int .u8 (((a0_1.size : Int)) % 256)] from rfl) (Reps.none _ _))))
         intro v136 w29 ho30 hb hg_ hnew_
         clear hg_ hnew_
         (first | rw [← Ny135.out] at ho30 | (simp only [Int.reduceToNat] at ho30; rw [← Ny135.out] at ho30))
         have n0_ := aM' (Kd.R_elder' (by (with_reducible repeat (first | apply Kd.R_alloc | apply Kd.R_drewN | apply Kd.R_drew)); exact HO134.out) (Kd.R_base ho30) hb)
         have n1_ := aM' (Kd.R_lower (Kd.R_new' ho30 (Kd.R_lt (by (with_reducible repeat (first | apply Kd.R_alloc | apply Kd.R_drewN | apply Kd.R_drew)); exact HO134.out))) (below_size (by repeat (first | (with_reducible first | exact HB.out | apply below_alloc | apply pw_below_drewN | apply below_drew1 | refine below_set ?_ GE130.out) | exact HB.out))))
         have n2_ := aM' (blk_below (g := gb130) (o := .cells #[.bool false, .string a0_1, .string a0_2, .int .u64 a0_3, .int .u64 a0_4] 34 (0, 0)) (by (with_reducible repeat (first | refine blk_drewN ?_ _ | refine blk_drew ?_ | refine blk_alloc ?_ _)); exact BK130.out) hb)
         have n3_ := aM' (below_step (by repeat (first | (with_reducible first | exact HB.out | apply below_alloc | apply pw_below_drewN | apply below_drew1 | refine below_set ?_ GE130.out) | exact HB.out)) hb)
         clear HO134
         clear BK130
         clear HB
         have HO134 := n0_
         have HO137 := n1_
         have BK130 := n2_
         have HB := n3_
         clear n0_ n1_ n2_ n3_
         clear hb ho30
         refine hK.out _ _ ⟨(blk_cell BK130.out 0).trans rfl, (blk_cell BK130.out 1).trans rfl, (blk_cell BK130.out 2).trans rfl, (blk_cell BK130.out 3).trans rfl, (blk_cell BK130.out 4).trans rfl⟩ (fun hHeld => ?_)
         clear hK K
         refine norm_ (a' := ?_) ?_ ?_
         rotate_left
         ·
          show Act.put _ (some 24) _ = _
          simp only [Act.put, List.setIfInBounds_toArray, List.set_cons_zero, List.set_cons_succ, i64_w, i32_w]
          rfl
         refine one_ (i := 5) (N := some 25) #[true, true, true, true, true, true, true, true, false, true, false, true, true, true, false, false] rfl rfl (one_of HT_.out (by kernel_rfl)) (by decide) (fun K hK => ?_)
         have hcv31 := own_string (P := Tryz.prog) Tryz.underlying96 Tryz.underlying5 Tryz.underlying9 (Kd.own_of_R HO137.out)
         refine value_ (w1 := ?_) (v := ?_) (by rfl) rfl ?_ ?_
         rotate_left 2
         ·
          go_simp
          constructor
          ·
           rfl
          ·
           rfl
         clear hcv31
         refine hK.out _ _ ⟨(blk_cell BK130.out 0).trans rfl, (blk_cell BK130.out 1).trans rfl, (blk_cell BK130.out 2).trans rfl, (blk_cell BK130.out 3).trans rfl, (blk_cell BK130.out 4).trans rfl⟩ (fun hHeld => ?_)
         clear hK K
         refine norm_ (a' := ?_) ?_ ?_
         rotate_left
         ·
          show Act.put _ (some 25) _ = _
          simp only [Act.put, List.setIfInBounds_toArray, List.set_cons_zero, List.set_cons_succ, i64_w, i32_w]
          rfl
         refine pure_ (i := 8) (N := some 28) (v := ?_) (a' := ?_) #[true, true, true, true, true, true, true, true, true, true, false, true, true, true, false, false] rfl rfl (any_of HT_.out (by kernel_rfl)) (fun _ _ _ h => h) (Or.inl ⟨by rfl, ?_⟩) ?_ ?_
         rotate_left
         ·
          intro w'
          go_simp
          with_reducible rfl
         rotate_left
         ·
          simp only [Act.put, List.setIfInBounds_toArray, List.set_cons_zero, List.set_cons_succ, i64_w, i32_w]
          rfl
         refine pure_ (i := 10) (N := some 30) (v := ?_) (a' := ?_) #[true, true, true, true, true, true, true, true, true, true, true, true, true, true, false, false] rfl rfl (any_of HT_.out (by kernel_rfl)) (fun _ _ _ h => h) (Or.inl ⟨by rfl, ?_⟩) ?_ ?_
         rotate_left
         ·
          intro w'
          go_simp
          with_reducible rfl
         rotate_left
         ·
          simp only [Act.put, List.setIfInBounds_toArray, List.set_cons_zero, List.set_cons_succ, i64_w, i32_w]
          rfl
         exact norm_ (by simp only [putAll, Act.put, List.setIfInBounds_toArray, List.set_cons_zero, List.set_cons_succ]) (hCont (v136) _ ⟨hHeld, (by (with_reducible repeat (first | apply Kd.R_alloc | apply Kd.R_drewN | apply Kd.R_drew)); exact Kd.R_mono HO134.out (fun _ hk => hk.2)), (by (with_reducible repeat (first | apply Kd.R_alloc | apply Kd.R_drewN | apply Kd.R_drew)); exact Kd.R_mono HO137.out (fun _ hk => hk.2)), (by (with_reducible repeat (first | refine blk_drewN ?_ _ | refine blk_drew ?_ | refine blk_alloc ?_ _)); exact BK130.out), (by repeat (first | (with_reducible first | exact HB.out | apply below_alloc | apply pw_below_drewN | apply below_drew1 | refine below_set ?_ GE130.out) | exact HB.out))⟩)
       rintro v136 w32 ⟨hS_, h0_, h1_, h2_, h3_⟩
       have n0_ : Aside0 (Kd.R (Kd.int .u8) 5 w32 w.heap.size (fun k_ => some k_ ≠ (v136 : Value).ownBlock) v133 y132) := ⟨h0_⟩
       have n1_ : Aside0 (Kd.R (Kd.int .u8) 5 w32 w.heap.size (fun k_ => some k_ ≠ (v133 : Value).ownBlock) v136 y135) := ⟨h1_⟩
       have n2_ : Aside0 (w32.heap[gb130]? = some (.cells #[.bool false, .string a0_1, .string a0_2, .int .u64 a0_3, .int .u64 a0_4] 34 (0, 0))) := ⟨h2_⟩
       have n3_ : Aside0 (Below w.heap.size w w32) := ⟨h3_⟩
       clear HO134
       clear BK130
       clear HB
       clear h0_ h1_ h2_ h3_
       have HO134 := n0_
       have HO137 := n1_
       have BK130 := n2_
       have HB := n3_
       clear n0_ n1_ n2_ n3_
       have hHeld : w32.cell? ⟨gb130, 0, none⟩ = some (.bool false) ∧ w32.cell? ⟨gb130, 1, none⟩ = some (.string a0_1) ∧ w32.cell? ⟨gb130, 2, none⟩ = some (.string a0_2) ∧ w32.cell? ⟨gb130, 3, none⟩ = some (.int .u64 a0_3) ∧ w32.cell? ⟨gb130, 4, none⟩ = some (.int .u64 a0_4) := hS_
       refine norm_ (a' := ?_) ?_ ?_
       rotate_left
       ·
        simp only [putAll, Act.put, List.setIfInBounds_toArray, List.set_cons_zero, List.set_cons_succ]
        rfl
       refine pure_ (i := 14) (N := some 34) (v := ?_) (a' := ?_) #[true, true, true, true, true, true, true, true, true, true, true, true, true, true, true, false] rfl rfl (any_of HT_.out (by kernel_rfl)) (fun _ _ _ h => h) (Or.inl ⟨by rfl, ?_⟩) ?_ ?_
       rotate_left
       ·
        intro w'
        go_simp
        with_reducible rfl
       rotate_left
       ·
        simp only [Act.put, List.setIfInBounds_toArray, List.set_cons_zero, List.set_cons_succ, i64_w, i32_w]
        rfl
       refine pure_ (i := 15) (N := some 2) (v := ?_) (a' := ?_) #[true, true, true, true, true, true, true, true, true, true, true, true, true, true, true, true] rfl rfl (any_of HT_.out (by kernel_rfl)) (fun _ _ _ h => h) (Or.inl ⟨by rfl, ?_⟩) ?_ ?_
       rotate_left
       ·
        intro w'
        go_simp
        with_reducible rfl
       rotate_left
       ·
        simp only [Act.put, List.setIfInBounds_toArray, List.set_cons_zero, List.set_cons_succ, i64_w, i32_w]
        rfl
       refine done_ (done_of HT_.out (by kernel_rfl)) ?_
       try go_wp2
       go_ret
       exact ⟨by first | rfl | (simp [errW_none, errW_some] <;> rfl) | (simp [*, errW_none, errW_some] <;> rfl), by repeat (first | (with_reducible first | exact HB.out | apply below_alloc | apply pw_below_drewN | apply below_drew1 | refine below_set ?_ GE130.out) | exact HB.out)⟩
      ·
       rw [if_neg c18] at H
       exact absurd H (by simp)
     ·
      rw [if_neg c16] at H
      exact absurd H (by simp)
    ·
     rw [if_neg c15] at H
     exact absurd H (by simp)
  ·
   rw [if_neg c4] at H
   exact absurd H (by simp)
 ·
  replace c3 := Bool.eq_false_iff.mpr c3
  subst c3
  have H1 : (some (⟨#[]⟩ : ByteArray)) = some r := by rw [if_neg (show ¬ (false = true) by decide)] at H; exact H
  clear H
  have H := H1
  clear H1
  obtain rfl := Option.some.inj H
  go_enter Tryz.func46, Tryz.ntmps46
  go_wp2_with (first | ((with_reducible refine gate_dst (N := 1) rfl ?_); refine box_event ?hg (N := 1) ?hd (cs := #[.bool a0_0, .string a0_1, .string a0_2, .int .u64 a0_3, .int .u64 a0_4]) (t := 34) ?hr ?_; (case hd => rfl); (case hg => rfl); (case hr => first | (go_simp; done) | (go_simp; rfl)); intro gb130 hg w33 hbox hb; have n0_ := aM' (below_step (by repeat (first | (with_reducible first | exact HB.out | apply below_alloc | apply pw_below_drewN | apply below_drew1) | exact HB.out)) hb); have n1_ := aM' (hbox); have n2_ := aM' ((by rw [hg]; exact (below_size (by repeat (first | (with_reducible first | exact HB.out | apply below_alloc | apply pw_below_drewN | apply below_drew1) | exact HB.out))) : w.heap.size ≤ gb130)); have n3_ := aM' ((by rw [hg]; exact (below_size (by repeat (first | (with_reducible first | exact HB.out | apply below_alloc | apply pw_below_drewN | apply below_drew1) | exact HB.out))) : w.heap.size ≤ gb130)); clear HB; have HB := n0_; have BK130 := n1_; have GW130 := n2_; have GE130 := n3_; clear n0_ n1_ n2_ n3_; clear hb hbox hg; have hcz34_0 : w33.cell? ⟨gb130, 0, none⟩ = some (.bool a0_0) := (blk_cell BK130.out 0).trans rfl; have hcz34_1 : w33.cell? ⟨gb130, 1, none⟩ = some (.string a0_1) := (blk_cell BK130.out 1).trans rfl; have hcz34_2 : w33.cell? ⟨gb130, 2, none⟩ = some (.string a0_2) := (blk_cell BK130.out 2).trans rfl; have hcz34_3 : w33.cell? ⟨gb130, 3, none⟩ = some (.int .u64 a0_3) := (blk_cell BK130.out 3).trans rfl; have hcz34_4 : w33.cell? ⟨gb130, 4, none⟩ = some (.int .u64 a0_4) := (blk_cell BK130.out 4).trans rfl; have hfz34_0 := blk_frozen BK130.out 0; have hfz34_1 := blk_frozen BK130.out 1; have hfz34_2 := blk_frozen BK130.out 2; have hfz34_3 := blk_frozen BK130.out 3; have hfz34_4 := blk_frozen BK130.out 4) | ((with_reducible refine gate_callee (f := 16) rfl ?_); refine goesL_ (some 5) rfl rfl Tryz.func16 (by kernel_rfl) rfl #[.agg #[.bool a0_0, .string a0_1, .string a0_2, .int .u64 a0_3, .int .u64 a0_4]] rfl (by (try simp only [List.map_toArray, List.map_cons, List.map_nil]); first | done | rfl | (simp only [List.length_drop, List.length_take]; rfl)) ?_; (with_reducible refine (paymasterref07_MayLeaf.calls k a0_0 a0_1 a0_2 a0_3 a0_4 false _ A2.out).mono ?_); rintro e w35 ⟨rfl, hb⟩; refine ⟨_, rfl, ?_⟩; have n0_ := aM' (blk_below (g := gb130) (o := .cells #[.bool a0_0, .string a0_1, .string a0_2, .int .u64 a0_3, .int .u64 a0_4] 34 (0, 0)) (by (with_reducible repeat (first | refine blk_drewN ?_ _ | refine blk_drew ?_ | refine blk_alloc ?_ _)); exact BK130.out) hb); have n1_ := aM' (below_step (by repeat (first | (with_reducible first | exact HB.out | apply below_alloc | apply pw_below_drewN | apply below_drew1 | refine below_set ?_ GE130.out) | exact HB.out)) hb); clear BK130; clear HB; have BK130 := n0_; have HB := n1_; clear n0_ n1_; (try clear hb); (try clear hb2); (try clear hk); (try clear hi)))
  go_ret
  exact ⟨by first | rfl | (simp [errW_none, errW_some] <;> rfl) | (simp [*, errW_none, errW_some] <;> rfl), by repeat (first | (with_reducible first | exact HB.out | apply below_alloc | apply pw_below_drewN | apply below_drew1 | refine below_set ?_ GE130.out) | exact HB.out)⟩
def paymasterref07_LeafNode.j0 : Nat → Int → Bool → Bool → ByteArray → ByteArray → Int → Int → Option (ByteArray × Int × Int)
 | 0, _, _, _, _, _, _, _ => none
 | k + 1, x0, x12, x140000, x140001, x140002, x140003, x140004 => if x12 = true then (some ((⟨#[]⟩ : ByteArray), 0, 0)) else ((paymasterref07_LeafText.f k x140000 x140001 x140002 x140003 x140004).bind fun t143 => ((paymasterref07_Digest.f x0 t143).bind fun t144 => (some (t144, x140003, x140004))))
def paymasterref07_LeafNode.f (k : Nat) (a0 : Int) (a1_0 : Bool) (a1_1 : ByteArray) (a1_2 : ByteArray) (a1_3 : Int) (a1_4 : Int) : Option (ByteArray × Int × Int) := (paymasterref07_MayWidth.f a0).bind fun t141 => (if t141 = true then ((paymasterref07_MayLeaf.f k a1_0 a1_1 a1_2 a1_3 a1_4).bind fun t142 => (paymasterref07_LeafNode.j0 k a0 (!t142) a1_0 a1_1 a1_2 a1_3 a1_4)) else (paymasterref07_LeafNode.j0 k a0 true a1_0 a1_1 a1_2 a1_3 a1_4))
def paymasterref07_LeafNode.T3 : Bool × List (List Nat × List Nat) := (true, [([], []), ([], []), ([1], [1]), ([0, 2, 2], [0, 2]), ([], []), ([4], [4]), ([3, 5], [3, 5]), ([6, 3, 0, 1, 2, 3, 4, 5, 6], [6])])
def paymasterref07_LeafNode.B3 : List Nat := [0, 0, 2, 7, 0, 16, 63, 127]
theorem paymasterref07_LeafNode.tab3 : rtab .any (opsOf Tryz.f32 3) = paymasterref07_LeafNode.T3 := by kernel_rfl
theorem paymasterref07_LeafNode.bits3 : waitsOk paymasterref07_LeafNode.T3.2 paymasterref07_LeafNode.B3 = true := by kernel_rfl
set_option maxHeartbeats 8000000 in
set_option maxRecDepth 100000 in
theorem paymasterref07_LeafNode.calls (k : Nat) (a0 : Int) (a1_0 : Bool) (a1_1 : ByteArray) (a1_2 : ByteArray) (a1_3 : Int) (a1_4 : Int) (r1 : ByteArray) (r2 : Int) (r3 : Int) (w : World) (h : paymasterref07_LeafNode.f k a0 a1_0 a1_1 a1_2 a1_3 a1_4 = some (r1, r2, r3)) :
  Calls Tryz.prog 32 #[.int .i64 a0, .agg #[.bool a1_0, .string a1_1, .string a1_2, .int .u64 a1_3, .int .u64 a1_4]] w fun e w' => e = .returned (.agg #[.string r1, .int .u64 r2, .int .u64 r3]) ∧ Below w.heap.size w w' := by
 have hu34 := Tryz.underlying34
 have hu67 := Tryz.underlying67
 have hu24 := Tryz.underlying24
 have HB := aM' (Below.refl w.heap.size w)
 have H : ((paymasterref07_MayWidth.f a0).bind fun t141 => (if t141 = true then ((paymasterref07_MayLeaf.f k a1_0 a1_1 a1_2 a1_3 a1_4).bind fun t142 => (paymasterref07_LeafNode.j0 k a0 (!t142) a1_0 a1_1 a1_2 a1_3 a1_4)) else (paymasterref07_LeafNode.j0 k a0 true a1_0 a1_1 a1_2 a1_3 a1_4))) = some (r1, r2, r3) := h
 clear h
 have HC3 := aM' H
 clear H
 go_enter Tryz.func32, Tryz.ntmps32
 go_upto_region 1 with (first | ((with_reducible refine gate_dst (N := 3) rfl ?_); refine box_event ?hg (N := 3) ?hd (cs := #[.bool a1_0, .string a1_1, .string a1_2, .int .u64 a1_3, .int .u64 a1_4]) (t := 34) ?hr ?_; (case hd => rfl); (case hg => rfl); (case hr => first | (go_simp; done) | (go_simp; rfl)); intro gb139 hg w4 hbox hb; have n0_ := aM' (below_step (by repeat (first | (with_reducible first | exact HB.out | apply below_alloc | apply pw_below_drewN | apply below_drew1) | exact HB.out)) hb); have n1_ := aM' (hbox); have n2_ := aM' ((by rw [hg]; exact (below_size (by repeat (first | (with_reducible first | exact HB.out | apply below_alloc | apply pw_below_drewN | apply below_drew1) | exact HB.out))) : w.heap.size ≤ gb139)); have n3_ := aM' ((by rw [hg]; exact (below_size (by repeat (first | (with_reducible first | exact HB.out | apply below_alloc | apply pw_below_drewN | apply below_drew1) | exact HB.out))) : w.heap.size ≤ gb139)); clear HB; have HB := n0_; have BK139 := n1_; have GW139 := n2_; have GE139 := n3_; clear n0_ n1_ n2_ n3_; clear hb hbox hg) | ((with_reducible refine gate_dst (N := 4) rfl ?_); refine box_event ?hg (N := 4) ?hd (cs := #[.string (⟨#[]⟩ : ByteArray), .int .u64 0, .int .u64 0]) (t := 67) ?hr ?_; (case hd => rfl); (case hg => rfl); (case hr => first | (go_simp; done) | (go_simp; rfl)); intro gb140 hg w5 hbox hb; have n0_ := aM' (blk_below (g := gb139) (o := .cells #[.bool a1_0, .string a1_1, .string a1_2, .int .u64 a1_3, .int .u64 a1_4] 34 (0, 0)) (by (with_reducible repeat (first | refine blk_drewN ?_ _ | refine blk_drew ?_ | refine blk_alloc ?_ _)); exact BK139.out) hb); have n1_ := aM' (below_step (by repeat (first | (with_reducible first | exact HB.out | apply below_alloc | apply pw_below_drewN | apply below_drew1 | refine below_set ?_ GE139.out) | exact HB.out)) hb); have n2_ := aM' (hbox); have n3_ := aM' ((by rw [hg]; exact (below_size (by repeat (first | (with_reducible first | exact HB.out | apply below_alloc | apply pw_below_drewN | apply below_drew1 | refine below_set ?_ GE139.out) | exact HB.out))) : w.heap.size ≤ gb140)); have n4_ := aM' ((by rw [hg]; exact (below_size (by repeat (first | (with_reducible first | exact HB.out | apply below_alloc | apply pw_below_drewN | apply below_drew1 | refine below_set ?_ GE139.out) | exact HB.out))) : w.heap.size ≤ gb140)); have n5_ := aM' ((by rw [hg]; exact Nat.ne_of_lt (blk_lt (g := gb139) (o := .cells #[.bool a1_0, .string a1_1, .string a1_2, .int .u64 a1_3, .int .u64 a1_4] 34 (0, 0)) (by (with_reducible repeat (first | refine blk_drewN ?_ _ | refine blk_drew ?_ | refine blk_alloc ?_ _)); exact BK139.out)) : gb139 ≠ gb140)); have n6_ := aM' ((by rw [hg]; exact Nat.ne_of_gt (blk_lt (g := gb139) (o := .cells #[.bool a1_0, .string a1_1, .string a1_2, .int .u64 a1_3, .int .u64 a1_4] 34 (0, 0)) (by (with_reducible repeat (first | refine blk_drewN ?_ _ | refine blk_drew ?_ | refine blk_alloc ?_ _)); exact BK139.out)) : gb140 ≠ gb139)); clear BK139; clear HB; have BK139 := n0_; have HB := n1_; have BK140 := n2_; have GW140 := n3_; have GE140 := n4_; have NB139_140 := n5_; have NB140_139 := n6_; clear n0_ n1_ n2_ n3_ n4_ n5_ n6_; clear hb hbox hg))
 (try simp only [Act.put, List.setIfInBounds_toArray, List.set_cons_zero, List.set_cons_succ])
 go_cut [12] (fun v12 wc => ∃ (kq : Nat) (x12_2 : Bool), v12 = .bool x12_2 ∧ Aside0 (paymasterref07_LeafNode.j0 kq a0 x12_2 a1_0 a1_1 a1_2 a1_3 a1_4 = some (r1, r2, r3)) ∧ Aside0 (kq ≤ k) ∧ Aside0 (wc.heap[gb139]? = some (.cells #[.bool a1_0, .string a1_1, .string a1_2, .int .u64 a1_3, .int .u64 a1_4] 34 (0, 0))) ∧ Aside0 (wc.heap[gb140]? = some (.cells #[.string (⟨#[]⟩ : ByteArray), .int .u64 0, .int .u64 0] 67 (0, 0))) ∧ Aside0 (Below w.heap.size w wc))
 case first =>
  have H := HC3.out
  clear HC3
  replace H := Option.bind_eq_some_iff.mp H
  obtain ⟨t141, A60, H⟩ := H
  replace H : (if t141 = true then ((paymasterref07_MayLeaf.f k a1_0 a1_1 a1_2 a1_3 a1_4).bind fun t142 => (paymasterref07_LeafNode.j0 k a0 (!t142) a1_0 a1_1 a1_2 a1_3 a1_4)) else (paymasterref07_LeafNode.j0 k a0 true a1_0 a1_1 a1_2 a1_3 a1_4)) = some (r1, r2, r3) := H
  have A6 := aM' A60
  clear A60
  by_cases c7 : t141 = true
  ·
   subst c7
   have H1 : ((paymasterref07_MayLeaf.f k a1_0 a1_1 a1_2 a1_3 a1_4).bind fun t142 => (paymasterref07_LeafNode.j0 k a0 (!t142) a1_0 a1_1 a1_2 a1_3 a1_4)) = some (r1, r2, r3) := by rw [if_pos rfl] at H; exact H
   clear H
   have H := H1
   clear H1
   replace H := Option.bind_eq_some_iff.mp H
   obtain ⟨t142, A80, H⟩ := H
   replace H : (paymasterref07_LeafNode.j0 k a0 (!t142) a1_0 a1_1 a1_2 a1_3 a1_4) = some (r1, r2, r3) := H
   have A8 := aM' A80
   clear A80
   have H' := aM' H
   clear H
   go_wp2_with (first | ((with_reducible refine gate_callee (f := 44) rfl ?_); refine goesL_ (some 6) rfl rfl Tryz.func44 (by kernel_rfl) rfl #[.int .i64 a0] rfl (by (try simp only [List.map_toArray, List.map_cons, List.map_nil]); first | done | rfl | (simp only [List.length_drop, List.length_take]; rfl)) ?_; (with_reducible refine (paymasterref07_MayWidth.calls a0 true _ A6.out).mono ?_); rintro e w' ⟨rfl, ⟨nd, rfl⟩⟩; refine ⟨_, rfl, ?_⟩; have hnb9 := NB139_140.out; have hnc9 := NB140_139.out; have hcz10_0 : w5.cell? ⟨gb139, 0, none⟩ = some (.bool a1_0) := (blk_cell BK139.out 0).trans rfl; have hcz10_1 : w5.cell? ⟨gb139, 1, none⟩ = some (.string a1_1) := (blk_cell BK139.out 1).trans rfl; have hcz10_2 : w5.cell? ⟨gb139, 2, none⟩ = some (.string a1_2) := (blk_cell BK139.out 2).trans rfl; have hcz10_3 : w5.cell? ⟨gb139, 3, none⟩ = some (.int .u64 a1_3) := (blk_cell BK139.out 3).trans rfl; have hcz10_4 : w5.cell? ⟨gb139, 4, none⟩ = some (.int .u64 a1_4) := (blk_cell BK139.out 4).trans rfl; have hfz10_0 := blk_frozen BK139.out 0; have hfz10_1 := blk_frozen BK139.out 1; have hfz10_2 := blk_frozen BK139.out 2; have hfz10_3 := blk_frozen BK139.out 3; have hfz10_4 := blk_frozen BK139.out 4) | (go_at_call 16; (with_reducible refine (paymasterref07_MayLeaf.calls k a1_0 a1_1 a1_2 a1_3 a1_4 t142 _ A8.out).mono ?_); rintro e w11 ⟨rfl, hb⟩; have n0_ := aM' (blk_below (g := gb139) (o := .cells #[.bool a1_0, .string a1_1, .string a1_2, .int .u64 a1_3, .int .u64 a1_4] 34 (0, 0)) (by (with_reducible repeat (first | refine blk_drewN ?_ _ | refine blk_drew ?_ | refine blk_alloc ?_ _)); exact BK139.out) hb); have n1_ := aM' (blk_below (g := gb140) (o := .cells #[.string (⟨#[]⟩ : ByteArray), .int .u64 0, .int .u64 0] 67 (0, 0)) (by (with_reducible repeat (first | refine blk_drewN ?_ _ | refine blk_drew ?_ | refine blk_alloc ?_ _)); exact BK140.out) hb); have n2_ := aM' (below_step (by repeat (first | (with_reducible first | exact HB.out | apply below_alloc | apply pw_below_drewN | apply below_drew1 | refine below_set ?_ GE139.out | refine below_set ?_ GE140.out) | exact HB.out)) hb); clear BK139; clear BK140; clear HB; have BK139 := n0_; have BK140 := n1_; have HB := n2_; clear n0_ n1_ n2_; (try clear hb); (try clear hb2); (try clear hk); (try clear hi)))
   go_meet
   case rel => exact ⟨_, (!t142), (by first | rfl | (simp; done) | (simp [*]; done)), H', ⟨by first | omega | exact Nat.le_refl _⟩, ⟨by (with_reducible repeat (first | refine blk_drewN ?_ _ | refine blk_drew ?_ | refine blk_alloc ?_ _)); exact BK139.out⟩, ⟨by (with_reducible repeat (first | refine blk_drewN ?_ _ | refine blk_drew ?_ | refine blk_alloc ?_ _)); exact BK140.out⟩, ⟨by repeat (first | (with_reducible first | exact HB.out | apply below_alloc | apply pw_below_drewN | apply below_drew1 | refine below_set ?_ GE139.out | refine below_set ?_ GE140.out) | exact HB.out)⟩⟩
  ·
   replace c7 := Bool.eq_false_iff.mpr c7
   subst c7
   have H1 : (paymasterref07_LeafNode.j0 k a0 true a1_0 a1_1 a1_2 a1_3 a1_4) = some (r1, r2, r3) := by rw [if_neg (show ¬ (false = true) by decide)] at H; exact H
   clear H
   have H := H1
   clear H1
   have H' := aM' H
   clear H
   go_wp2_with (first | ((with_reducible refine gate_callee (f := 44) rfl ?_); refine goesL_ (some 6) rfl rfl Tryz.func44 (by kernel_rfl) rfl #[.int .i64 a0] rfl (by (try simp only [List.map_toArray, List.map_cons, List.map_nil]); first | done | rfl | (simp only [List.length_drop, List.length_take]; rfl)) ?_; (with_reducible refine (paymasterref07_MayWidth.calls a0 false _ A6.out).mono ?_); rintro e w' ⟨rfl, ⟨nd, rfl⟩⟩; refine ⟨_, rfl, ?_⟩))
   go_meet
   case rel => exact ⟨_, (true), (by first | rfl | (simp; done) | (simp [*]; done)), H', ⟨by first | omega | exact Nat.le_refl _⟩, ⟨by (with_reducible repeat (first | refine blk_drewN ?_ _ | refine blk_drew ?_ | refine blk_alloc ?_ _)); exact BK139.out⟩, ⟨by (with_reducible repeat (first | refine blk_drewN ?_ _ | refine blk_drew ?_ | refine blk_alloc ?_ _)); exact BK140.out⟩, ⟨by repeat (first | (with_reducible first | exact HB.out | apply below_alloc | apply pw_below_drewN | apply below_drew1 | refine below_set ?_ GE139.out | refine below_set ?_ GE140.out) | exact HB.out)⟩⟩
 case rest =>
  clear HC3
  try clear p2
  try clear c3
  try clear c4
  try clear c7
  try clear c9
  try clear hcz10_0
  try clear hcz10_1
  try clear hcz10_2
  try clear hcz10_3
  try clear hcz10_4
  try clear hfz10_0
  try clear hfz10_1
  try clear hfz10_2
  try clear hfz10_3
  try clear hfz10_4
  obtain ⟨kq, x12_2, rfl, HA, HJ2, BK139, BK140, HB⟩ := hcut
  cases kq with
  | zero => exact absurd HA.out (by simp [paymasterref07_LeafNode.j0])
  | succ kj2 =>
   have H := HA.out
   clear HA
   simp only [paymasterref07_LeafNode.j0] at H
   by_cases c12 : x12_2 = true
   ·
    subst c12
    have H1 : (some ((⟨#[]⟩ : ByteArray), 0, 0)) = some (r1, r2, r3) := by rw [if_pos rfl] at H; exact H
    clear H
    have H := H1
    clear H1
    simp only [Option.some.injEq, Prod.mk.injEq] at H
    obtain ⟨rfl, rfl, rfl⟩ := H
    have hnb13 := NB140_139.out
    have hnc13 := NB139_140.out
    have hcz14_0 : wc.cell? ⟨gb140, 0, none⟩ = some (.string (⟨#[]⟩ : ByteArray)) := (blk_cell BK140.out 0).trans rfl
    have hcz14_1 : wc.cell? ⟨gb140, 1, none⟩ = some (.int .u64 0) := (blk_cell BK140.out 1).trans rfl
    have hcz14_2 : wc.cell? ⟨gb140, 2, none⟩ = some (.int .u64 0) := (blk_cell BK140.out 2).trans rfl
    have hfz14_0 := blk_frozen BK140.out 0
    have hfz14_1 := blk_frozen BK140.out 1
    have hfz14_2 := blk_frozen BK140.out 2
    go_wp2
    refine bodyPost_ret (results_cell_row rfl _ _ gb140 67 #[.string (⟨#[]⟩ : ByteArray), .int .u64 0, .int .u64 0] (0, 0) _ rfl (by (with_reducible repeat (first | refine blk_drewN ?_ _ | refine blk_drew ?_ | refine blk_alloc ?_ _)); refine blk_put (cs := #[.string (⟨#[]⟩ : ByteArray), .int .u64 0, .int .u64 0]) ?_ 2 _ rfl; (with_reducible repeat (first | refine blk_drewN ?_ _ | refine blk_drew ?_ | refine blk_alloc ?_ _)); refine blk_put (cs := #[.string (⟨#[]⟩ : ByteArray), .int .u64 0, .int .u64 0]) ?_ 1 _ rfl; (with_reducible repeat (first | refine blk_drewN ?_ _ | refine blk_drew ?_ | refine blk_alloc ?_ _)); refine blk_put (cs := #[.string (⟨#[]⟩ : ByteArray), .int .u64 0, .int .u64 0]) ?_ 0 _ rfl; (with_reducible repeat (first | refine blk_drewN ?_ _ | refine blk_drew ?_ | refine blk_alloc ?_ _)); exact BK140.out) Tryz.underlying67 rfl (by kernel_rfl)) rfl ?_
    exact ⟨by first | rfl | (simp [errW_none, errW_some] <;> rfl) | (simp [*, errW_none, errW_some] <;> rfl), by repeat (first | (with_reducible first | exact HB.out | apply below_alloc | apply pw_below_drewN | apply below_drew1 | refine below_set ?_ GE139.out | refine below_set ?_ GE140.out) | exact HB.out)⟩
   ·
    replace c12 := Bool.eq_false_iff.mpr c12
    subst c12
    have H1 : ((paymasterref07_LeafText.f kj2 a1_0 a1_1 a1_2 a1_3 a1_4).bind fun t143 => ((paymasterref07_Digest.f a0 t143).bind fun t144 => (some (t144, a1_3, a1_4)))) = some (r1, r2, r3) := by rw [if_neg (show ¬ (false = true) by decide)] at H; exact H
    clear H
    have H := H1
    clear H1
    replace H := Option.bind_eq_some_iff.mp H
    obtain ⟨t143, A150, H⟩ := H
    replace H : ((paymasterref07_Digest.f a0 t143).bind fun t144 => (some (t144, a1_3, a1_4))) = some (r1, r2, r3) := H
    have A15 := aM' A150
    clear A150
    replace H := Option.bind_eq_some_iff.mp H
    obtain ⟨t144, A160, H⟩ := H
    replace H : (some (t144, a1_3, a1_4)) = some (r1, r2, r3) := H
    have A16 := aM' A160
    clear A160
    simp only [Option.some.injEq, Prod.mk.injEq] at H
    obtain ⟨rfl, rfl, rfl⟩ := H
    try go_wp2
    have n0_ := aM' (blk_drew BK139.out)
    have n1_ := aM' (blk_drew BK140.out)
    have n2_ := aM' (below_drew1 HB.out)
    clear BK139
    clear BK140
    clear HB
    have BK139 := n0_
    have BK140 := n1_
    have HB := n2_
    clear n0_ n1_ n2_
    refine start_ (n := 8) (S := fun w' => w'.cell? ⟨gb139, 0, none⟩ = some (.bool a1_0) ∧ w'.cell? ⟨gb139, 1, none⟩ = some (.string a1_1) ∧ w'.cell? ⟨gb139, 2, none⟩ = some (.string a1_2) ∧ w'.cell? ⟨gb139, 3, none⟩ = some (.int .u64 a1_3) ∧ w'.cell? ⟨gb139, 4, none⟩ = some (.int .u64 a1_4)) (ds := []) #[false, false, false, false, false, false, false, false] (by kernel_rfl) rfl rfl ⟨(blk_cell BK139.out 0).trans rfl, (blk_cell BK139.out 1).trans rfl, (blk_cell BK139.out 2).trans rfl, (blk_cell BK139.out 3).trans rfl, (blk_cell BK139.out 4).trans rfl⟩ (fun hHeld => ?_); refine with_tabW paymasterref07_LeafNode.tab3 paymasterref07_LeafNode.bits3 (fun HT_ HW_ => ?_)
    generalize wc.drew = w17 at BK139 BK140 HB hHeld ⊢
    refine pure_ (i := 0) (N := some 14) (v := ?_) (a' := ?_) #[true, false, false, false, false, false, false, false] rfl rfl (any_of HT_.out (by kernel_rfl)) (fun _ _ _ h => h) (Or.inl ⟨by rfl, ?_⟩) ?_ ?_
    rotate_left
    ·
     intro w'
     go_simp
     with_reducible rfl
    rotate_left
    ·
     simp only [Act.put, List.setIfInBounds_toArray, List.set_cons_zero, List.set_cons_succ, i64_w, i32_w]
     rfl
    refine pure_ (i := 4) (N := some 18) (v := ?_) (a' := ?_) #[true, false, false, false, true, false, false, false] rfl rfl (any_of HT_.out (by kernel_rfl)) (fun _ _ _ h => h) (Or.inl ⟨by rfl, ?_⟩) ?_ ?_
    rotate_left
    ·
     intro w'
     go_simp
     with_reducible rfl
    rotate_left
    ·
     simp only [Act.put, List.setIfInBounds_toArray, List.set_cons_zero, List.set_cons_succ, i64_w, i32_w]
     rfl
    refine take_ (i := 1) (N := some 15) (v := ?_) (a' := ?_) #[true, true, false, false, true, false, false, false] rfl rfl (take_ofW HT_.out HW_.out (by kernel_rfl)) (fun _ _ _ h => h) (Or.inl ⟨by rfl, ?_⟩) hHeld ?_ ?_
    rotate_left
    ·
     rintro w' ⟨s0, s1, s2, s3, s4⟩
     go_simp
     with_reducible rfl
    rotate_left
    ·
     simp only [Act.put, List.setIfInBounds_toArray, List.set_cons_zero, List.set_cons_succ, i64_w, i32_w]
     rfl
    refine take_ (i := 5) (N := some 19) (v := ?_) (a' := ?_) #[true, true, false, false, true, true, false, false] rfl rfl (take_ofW HT_.out HW_.out (by kernel_rfl)) (fun _ _ _ h => h) (Or.inl ⟨by rfl, ?_⟩) hHeld ?_ ?_
    rotate_left
    ·
     rintro w' ⟨s0, s1, s2, s3, s4⟩
     go_simp
     with_reducible rfl
    rotate_left
    ·
     simp only [Act.put, List.setIfInBounds_toArray, List.set_cons_zero, List.set_cons_succ, i64_w, i32_w]
     rfl
    refine one_ (i := 2) (N := some 16) #[true, true, true, false, true, true, false, false] rfl rfl (one_of HT_.out (by kernel_rfl)) (by decide) (fun K hK => ?_)
    refine goes_ Tryz.func46 (by kernel_rfl) rfl #[.agg #[.bool a1_0, .string a1_1, .string a1_2, .int .u64 a1_3, .int .u64 a1_4]] (by rfl) rfl rfl (by (try simp only [List.map_toArray, List.map_cons, List.map_nil]); first | done | rfl | (simp only [List.length_drop, List.length_take]; rfl)) ?_
    with_reducible refine (paymasterref07_LeafText.calls kj2 a1_0 a1_1 a1_2 a1_3 a1_4 t143 _ A15.out).mono ?_
    rintro e w18 ⟨rfl, hb⟩
    refine ⟨_, rfl, ?_⟩
    have n0_ := aM' (blk_below (g := gb139) (o := .cells #[.bool a1_0, .string a1_1, .string a1_2, .int .u64 a1_3, .int .u64 a1_4] 34 (0, 0)) (by (with_reducible repeat (first | refine blk_drewN ?_ _ | refine blk_drew ?_ | refine blk_alloc ?_ _)); exact BK139.out) hb)
    have n1_ := aM' (blk_below (g := gb140) (o := .cells #[.string (⟨#[]⟩ : ByteArray), .int .u64 0, .int .u64 0] 67 (0, 0)) (by (with_reducible repeat (first | refine blk_drewN ?_ _ | refine blk_drew ?_ | refine blk_alloc ?_ _)); exact BK140.out) hb)
    have n2_ := aM' (below_step (by repeat (first | (with_reducible first | exact HB.out | apply below_alloc | apply pw_below_drewN | apply below_drew1 | refine below_set ?_ GE139.out | refine below_set ?_ GE140.out) | exact HB.out)) hb)
    clear BK139
    clear BK140
    clear HB
    have BK139 := n0_
    have BK140 := n1_
    have HB := n2_
    clear n0_ n1_ n2_
    (try clear hb)
    (try clear hb2)
    (try clear hk)
    (try clear hi)
    refine hK.out _ _ ⟨(blk_cell BK139.out 0).trans rfl, (blk_cell BK139.out 1).trans rfl, (blk_cell BK139.out 2).trans rfl, (blk_cell BK139.out 3).trans rfl, (blk_cell BK139.out 4).trans rfl⟩ (fun hHeld => ?_)
    clear hK K
    refine norm_ (a' := ?_) ?_ ?_
    rotate_left
    ·
     show Act.put _ (some 16) _ = _
     simp only [Act.put, List.setIfInBounds_toArray, List.set_cons_zero, List.set_cons_succ, i64_w, i32_w]
     rfl
    refine one_ (i := 3) (N := some 17) #[true, true, true, true, true, true, false, false] rfl rfl (one_of HT_.out (by kernel_rfl)) (by decide) (fun K hK => ?_)
    refine goes_ Tryz.func45 (by kernel_rfl) rfl #[.int .i64 a0, .string t143] (by rfl) rfl rfl (by (try simp only [List.map_toArray, List.map_cons, List.map_nil]); first | done | rfl | (simp only [List.length_drop, List.length_take]; rfl)) ?_
    with_reducible refine (paymasterref07_Digest.calls a0 t143 t144 _ A16.out).mono ?_
    rintro e w19 ⟨rfl, hb⟩
    refine ⟨_, rfl, ?_⟩
    have n0_ := aM' (blk_below (g := gb139) (o := .cells #[.bool a1_0, .string a1_1, .string a1_2, .int .u64 a1_3, .int .u64 a1_4] 34 (0, 0)) (by (with_reducible repeat (first | refine blk_drewN ?_ _ | refine blk_drew ?_ | refine blk_alloc ?_ _)); exact BK139.out) hb)
    have n1_ := aM' (blk_below (g := gb140) (o := .cells #[.string (⟨#[]⟩ : ByteArray), .int .u64 0, .int .u64 0] 67 (0, 0)) (by (with_reducible repeat (first | refine blk_drewN ?_ _ | refine blk_drew ?_ | refine blk_alloc ?_ _)); exact BK140.out) hb)
    have n2_ := aM' (below_step (by repeat (first | (with_reducible first | exact HB.out | apply below_alloc | apply pw_below_drewN | apply below_drew1 | refine below_set ?_ GE139.out | refine below_set ?_ GE140.out) | exact HB.out)) hb)
    clear BK139
    clear BK140
    clear HB
    have BK139 := n0_
    have BK140 := n1_
    have HB := n2_
    clear n0_ n1_ n2_
    (try clear hb)
    (try clear hb2)
    (try clear hk)
    (try clear hi)
    refine hK.out _ _ ⟨(blk_cell BK139.out 0).trans rfl, (blk_cell BK139.out 1).trans rfl, (blk_cell BK139.out 2).trans rfl, (blk_cell BK139.out 3).trans rfl, (blk_cell BK139.out 4).trans rfl⟩ (fun hHeld => ?_)
    clear hK K
    refine norm_ (a' := ?_) ?_ ?_
    rotate_left
    ·
     show Act.put _ (some 17) _ = _
     simp only [Act.put, List.setIfInBounds_toArray, List.set_cons_zero, List.set_cons_succ, i64_w, i32_w]
     rfl
    refine pure_ (i := 6) (N := some 20) (v := ?_) (a' := ?_) #[true, true, true, true, true, true, true, false] rfl rfl (any_of HT_.out (by kernel_rfl)) (fun _ _ _ h => h) (Or.inl ⟨by rfl, ?_⟩) ?_ ?_
    rotate_left
    ·
     intro w'
     go_simp
     with_reducible rfl
    rotate_left
    ·
     simp only [Act.put, List.setIfInBounds_toArray, List.set_cons_zero, List.set_cons_succ, i64_w, i32_w]
     rfl
    refine one_ (i := 7) (N := none) #[true, true, true, true, true, true, true, true] rfl rfl (one_of HT_.out (by kernel_rfl)) (by decide) (fun K hK => ?_)
    have hs20 : w19.cell? ⟨gb140, 0, none⟩ = some (.string (⟨#[]⟩ : ByteArray)) := (blk_cell BK140.out 0).trans rfl
    have hfs20 := blk_frozen BK140.out 0
    have hns20_0 := NB139_140.out
    have hms20_0 := NB140_139.out
    have hs21 : w19.cell? ⟨gb140, 1, none⟩ = some (.int .u64 0) := (blk_cell BK140.out 1).trans rfl
    have hfs21 := blk_frozen BK140.out 1
    have hns21_0 := NB139_140.out
    have hms21_0 := NB140_139.out
    have hs22 : w19.cell? ⟨gb140, 2, none⟩ = some (.int .u64 0) := (blk_cell BK140.out 2).trans rfl
    have hfs22 := blk_frozen BK140.out 2
    have hns22_0 := NB139_140.out
    have hms22_0 := NB140_139.out
    refine skip_ (w1 := ?_) (by rfl) rfl ?_ ?_
    rotate_left
    ·
     go_simp
     rfl
    refine hK.out _ _ ⟨((cell_far (p := ⟨gb140, _, none⟩) NB139_140.out _).trans (((cell_far (p := ⟨gb140, _, none⟩) NB139_140.out _).trans (((cell_far (p := ⟨gb140, _, none⟩) NB139_140.out _).trans (hHeld.1)))))), ((cell_far (p := ⟨gb140, _, none⟩) NB139_140.out _).trans (((cell_far (p := ⟨gb140, _, none⟩) NB139_140.out _).trans (((cell_far (p := ⟨gb140, _, none⟩) NB139_140.out _).trans (hHeld.2.1)))))), ((cell_far (p := ⟨gb140, _, none⟩) NB139_140.out _).trans (((cell_far (p := ⟨gb140, _, none⟩) NB139_140.out _).trans (((cell_far (p := ⟨gb140, _, none⟩) NB139_140.out _).trans (hHeld.2.2.1)))))), ((cell_far (p := ⟨gb140, _, none⟩) NB139_140.out _).trans (((cell_far (p := ⟨gb140, _, none⟩) NB139_140.out _).trans (((cell_far (p := ⟨gb140, _, none⟩) NB139_140.out _).trans (hHeld.2.2.2.1)))))), ((cell_far (p := ⟨gb140, _, none⟩) NB139_140.out _).trans (((cell_far (p := ⟨gb140, _, none⟩) NB139_140.out _).trans (((cell_far (p := ⟨gb140, _, none⟩) NB139_140.out _).trans (hHeld.2.2.2.2))))))⟩ (fun hHeld => ?_)
    clear hK K
    refine done_ (done_of HT_.out (by kernel_rfl)) ?_
    try go_wp2
    refine bodyPost_ret (results_cell_row rfl _ _ gb140 67 #[.string t144, .int .u64 a1_3, .int .u64 a1_4] (0, 0) _ rfl (by (with_reducible repeat (first | refine blk_drewN ?_ _ | refine blk_drew ?_ | refine blk_alloc ?_ _)); refine blk_put (cs := #[.string t144, .int .u64 a1_3, .int .u64 0]) ?_ 2 _ rfl; (with_reducible repeat (first | refine blk_drewN ?_ _ | refine blk_drew ?_ | refine blk_alloc ?_ _)); refine blk_put (cs := #[.string t144, .int .u64 0, .int .u64 0]) ?_ 1 _ rfl; (with_reducible repeat (first | refine blk_drewN ?_ _ | refine blk_drew ?_ | refine blk_alloc ?_ _)); refine blk_put (cs := #[.string (⟨#[]⟩ : ByteArray), .int .u64 0, .int .u64 0]) ?_ 0 _ rfl; (with_reducible repeat (first | refine blk_drewN ?_ _ | refine blk_drew ?_ | refine blk_alloc ?_ _)); exact BK140.out) Tryz.underlying67 rfl (by kernel_rfl)) rfl ?_
    exact ⟨by first | rfl | (simp [errW_none, errW_some] <;> rfl) | (simp [*, errW_none, errW_some] <;> rfl), by repeat (first | (with_reducible first | exact HB.out | apply below_alloc | apply pw_below_drewN | apply below_drew1 | refine below_set ?_ GE139.out | refine below_set ?_ GE140.out) | exact HB.out)⟩
end Go.Proofs.YtlmmpncdemblbaaGreatDoor.P
namespace Go.Proofs.YtlmmpncdemblbaaGreatDoor.P
open Go.RowKit Go.Proofs.YtlmmpncdemblbaaGreatDoorW.PrintWords Go.Proofs.YtlmmpncdemblbaaGreatDoorW.PrintLast Go.Proofs.YtlmmpncdemblbaaGreatDoorW.PrintMore
attribute [local go_sem] max2_int min2_int max_two min_two max_three min_three max_four min_four-- for this text's walks alone
set_option linter.unusedVariables false
set_option linter.unusedSimpArgs false
def tag_sized.f (a0 : ByteArray) : Option (ByteArray) := (some (([((a0.size : Int)) % 256] : List Int) : List Int)).bind fun y101 => (if (strOfNums y101).size + a0.size ≤ 9223372036854775807 then (some ((strOfNums y101) ++ a0)) else (none))
set_option maxHeartbeats 8000000 in
set_option maxRecDepth 100000 in
theorem tag_sized.calls (a0 : ByteArray) (r : ByteArray) (w : World) (h : tag_sized.f a0 = some r) :
  Calls Tryz.prog 73 #[.string a0] w fun e w' => e = .returned (.string r) ∧ Below w.heap.size w w' := by
 have HB := aM' (Below.refl w.heap.size w)
 have H : ((some (([((a0.size : Int)) % 256] : List Int) : List Int)).bind fun y101 => (if (strOfNums y101).size + a0.size ≤ 9223372036854775807 then (some ((strOfNums y101) ++ a0)) else (none))) = some r := h
 clear h
 obtain ⟨y101, hy101⟩ : ∃ y_ : List Int, y_ = (([((a0.size : Int)) % 256] : List Int)) := ⟨_, rfl⟩
 replace H : (if (strOfNums y101).size + a0.size ≤ 9223372036854775807 then (some ((strOfNums y101) ++ a0)) else (none)) = some r := by first | (rw [hy101]; with_reducible exact H) | (have H2_ := (Option.bind_some _ _).symm.trans H; rw [hy101]; with_reducible exact H2_) | (have H2_ := (Option.bind_some _ _).symm.trans H; with_reducible exact H2_) | with_reducible exact H | (rw [hy101]; exact H) | exact H
 have Ny101 := aM' hy101
 clear hy101
 by_cases c2 : (strOfNums y101).size + a0.size ≤ 9223372036854775807
 ·
  rw [if_pos c2] at H
  have c2b0 := eq_true c2
  have c2b1 : decide ((strOfNums y101).size + a0.size ≤ 9223372036854775807) = true := decide_eq_true c2
  try have c2b2 : (9223372036854775807 < (strOfNums y101).size + a0.size) = False := eq_false (Nat.not_lt.2 c2)
  try (have c2b9 := c2; simp only [ByteArray.size_append, ba_size, List.length_cons, List.length_nil, Nat.zero_add, Nat.reduceAdd] at c2b9; have c2b8 := eq_false (Nat.not_lt.2 c2b9))
  obtain rfl := Option.some.inj H
  go_enter Tryz.func73, Tryz.ntmps73
  go_wp2_with (first | ((with_reducible refine gate_dst (N := 6) rfl ?_); refine Kd.R_lit (Kd.int .u8) _ 5 ?hg (N := 6) ?hd (xs := ([((a0.size : Int)) % 256] : List Int)) (inner := [.int .u8 (((a0.size : Int)) % 256)]) (ok := fun _ => True) (okp := fun _ => True) ?hr ?hp (fun _ hk => hk) trivial (Below.refl _ _) (Nat.le_refl _) (by simp) ?_; (case hd => rfl); (case hg => rfl); (case hr => first | (go_simp; done) | (go_simp; rfl)); (case hp => exact (Reps.one (show Kd.M (Kd.int .u8) _ _ _ (((a0.size : Int)) % 256) [.int .u8 (((a0.size : Int)) % 256)] from rfl) (Reps.none _ _))); intro v102 w3 ho4 hb hg_ hnew_; clear hg_ hnew_; (first | rw [← Ny101.out] at ho4 | (simp only [Int.reduceToNat] at ho4; rw [← Ny101.out] at ho4)); have n0_ := aM' (Kd.R_lower ho4 (below_size (by repeat (first | (with_reducible first | exact HB.out | apply below_alloc | apply pw_below_drewN | apply below_drew1) | exact HB.out)))); have n1_ := aM' (below_step (by repeat (first | (with_reducible first | exact HB.out | apply below_alloc | apply pw_below_drewN | apply below_drew1) | exact HB.out)) hb); clear HB; have HO103 := n0_; have HB := n1_; clear n0_ n1_; clear hb ho4; have hcv5 := own_string (P := Tryz.prog) Tryz.underlying96 Tryz.underlying5 Tryz.underlying9 (Kd.own_of_R HO103.out)))
  go_ret
  exact ⟨by first | rfl | (simp [errW_none, errW_some] <;> rfl) | (simp [*, errW_none, errW_some] <;> rfl), by repeat (first | (with_reducible first | exact HB.out | apply below_alloc | apply pw_below_drewN | apply below_drew1) | exact HB.out)⟩
 ·
  rw [if_neg c2] at H
  exact absurd H (by simp)
end Go.Proofs.YtlmmpncdemblbaaGreatDoor.P
namespace Go.Proofs.YtlmmpncdemblbaaGreatDoor.P
open Go.RowKit Go.Proofs.YtlmmpncdemblbaaGreatDoorW.PrintWords Go.Proofs.YtlmmpncdemblbaaGreatDoorW.PrintLast Go.Proofs.YtlmmpncdemblbaaGreatDoorW.PrintMore
set_option linter.unusedVariables false
set_option linter.unusedSimpArgs false
set_option linter.unnecessarySimpa false
theorem add64_runs (x y c : Int) (hx : 0 ≤ x) (hy : 0 ≤ y) (hc0 : 0 ≤ c) (hc : c ≤ 1) (w : World) : (callFunc 86 #[.int .u64 x, .int .u64 y, .int .u64 c]).run Tryz.prog w =
  .ok (.value (.tuple #[.int .u64 ((x + y + c) % 18446744073709551616), .int .u64 ((x + y + c) / 18446744073709551616)])) w := by
 rw [run_callFunc_extern Tryz.func86 (by kernel_rfl) (by kernel_rfl) (by kernel_rfl) (e := add64Entry) (by kernel_rfl), run_add64 x y c hx hy hc0 hc]
 rfl
def u128_Add.f (a0_0 a0_1 a1_0 a1_1 : Int) : Option (Int × Int × Int) :=
 if ((0 ≤ a0_0 ∧ a0_0 < 18446744073709551616) ∧ (0 ≤ a0_1 ∧ a0_1 < 18446744073709551616)) ∧ ((0 ≤ a1_0 ∧ a1_0 < 18446744073709551616) ∧ (0 ≤ a1_1 ∧ a1_1 < 18446744073709551616)) then
  (if a0_0 + a1_0 + (a0_1 + a1_1) / 18446744073709551616 < 18446744073709551616 then some (a0_0 + a1_0 + (a0_1 + a1_1) / 18446744073709551616, (a0_1 + a1_1) % 18446744073709551616, 0) else some (0, 0, 10))
 else none
set_option maxRecDepth 100000 in
theorem u128_Add.calls (a0_0 : Int) (a0_1 : Int) (a1_0 : Int) (a1_1 : Int) (r1 : Int) (r2 : Int) (r3 : Int) (w : World) (h : u128_Add.f a0_0 a0_1 a1_0 a1_1 = some (r1, r2, r3)) :
  Calls Tryz.prog 70 #[.agg #[.int .u64 a0_0, .int .u64 a0_1], .agg #[.int .u64 a1_0, .int .u64 a1_1]] w fun e w' => e = .returned (.tuple #[.agg #[.int .u64 r1, .int .u64 r2], .int .i64 r3]) ∧ Below w.heap.size w w' := by
 have hu := Tryz.underlying24
 unfold u128_Add.f at h
 split at h
 ·
  rename_i hb
  obtain ⟨⟨⟨h00, h01⟩, h02, h03⟩, ⟨h10, h11⟩, h12, h13⟩ := hb
  have ha := add64_runs a0_1 a1_1 0 h02 h12 (by omega) (by omega)
  have hc := add64_runs a0_0 a1_0 ((a0_1 + a1_1) / 18446744073709551616) h00 h10 (by omega) (by omega)
  rw [Int.add_zero] at ha
  split at h
  ·
   rename_i hs
   simp only [Option.some.injEq, Prod.mk.injEq] at h
   obtain ⟨rfl, rfl, rfl⟩ := h
   have e1 : (a0_0 + a1_0 + (a0_1 + a1_1) / 18446744073709551616) / 18446744073709551616 = 0 := by omega
   have e2 : (a0_0 + a1_0 + (a0_1 + a1_1) / 18446744073709551616) % 18446744073709551616 = a0_0 + a1_0 + (a0_1 + a1_1) / 18446744073709551616 := by omega
   have E2 := aM' e2
   have hc2 : ∀ w : World, (callFunc 86 #[.int .u64 a0_0, .int .u64 a1_0, .int .u64 ((a0_1 + a1_1) / 18446744073709551616)]).run Tryz.prog w = .ok (.value (.tuple #[.int .u64 (a0_0 + a1_0 + (a0_1 + a1_1) / 18446744073709551616), .int .u64 0])) w := by
    intro w; rw [hc w, e1, e2]
   clear hc e1 e2 h00 h01 h02 h03 h10 h11 h12 h13 hs
   go_enter Tryz.func70, Tryz.ntmps70
   go_wp2_with fail
   refine bodyPost_ret (v := .tuple #[.agg #[.int .u64 (a0_0 + a1_0 + (a0_1 + a1_1) / 18446744073709551616), .int .u64 ((a0_1 + a1_1) % 18446744073709551616)], .int .i64 0]) ?_ rfl ⟨rfl, ?_⟩
   ·
    simp [results, Tryz.results70, go_sem, hu]
   ·
    repeat (with_reducible first | exact Below.refl _ _ | apply below_alloc | refine below_set ?_ (Nat.le_refl _))
  ·
   rename_i hs
   simp only [Option.some.injEq, Prod.mk.injEq] at h
   obtain ⟨rfl, rfl, rfl⟩ := h
   have e1 : (a0_0 + a1_0 + (a0_1 + a1_1) / 18446744073709551616) / 18446744073709551616 = 1 := by omega
   have hc2 : ∀ w : World, (callFunc 86 #[.int .u64 a0_0, .int .u64 a1_0, .int .u64 ((a0_1 + a1_1) / 18446744073709551616)]).run Tryz.prog w = .ok (.value (.tuple #[.int .u64 ((a0_0 + a1_0 + (a0_1 + a1_1) / 18446744073709551616) % 18446744073709551616), .int .u64 1])) w := by
    intro w; rw [hc w, e1]
   clear hc e1 h00 h01 h02 h03 h10 h11 h12 h13 hs
   go_enter Tryz.func70, Tryz.ntmps70
   go_wp2_with fail
   refine bodyPost_ret (v := .tuple #[.agg #[.int .u64 0, .int .u64 0], .int .i64 10]) ?_ rfl ⟨rfl, ?_⟩
   ·
    simp [results, Tryz.results70, go_sem, hu]
   ·
    repeat (with_reducible first | exact Below.refl _ _ | apply below_alloc | refine below_set ?_ (Nat.le_refl _))
 ·
  cases h
def halfB (x : Int) (i : Nat) : Int := x / 2 ^ (56 - 8 * i) % 256
def u128B (hi lo : Int) : ByteArray := strOfNums ((List.range 8).map (halfB hi) ++ (List.range 8).map (halfB lo))
def rowB (hi lo : Int) (k : Nat) : Array Value :=
 #[.int .u8 (if 0 < k then halfB hi 0 else 0), .int .u8 (if 1 < k then halfB hi 1 else 0), .int .u8 (if 2 < k then halfB hi 2 else 0), .int .u8 (if 3 < k then halfB hi 3 else 0), .int .u8 (if 4 < k then halfB hi 4 else 0), .int .u8 (if 5 < k then halfB hi 5 else 0), .int .u8 (if 6 < k then halfB hi 6 else 0), .int .u8 (if 7 < k then halfB hi 7 else 0),
  .int .u8 (if 0 < k then halfB lo 0 else 0), .int .u8 (if 1 < k then halfB lo 1 else 0), .int .u8 (if 2 < k then halfB lo 2 else 0), .int .u8 (if 3 < k then halfB lo 3 else 0), .int .u8 (if 4 < k then halfB lo 4 else 0), .int .u8 (if 5 < k then halfB lo 5 else 0), .int .u8 (if 6 < k then halfB lo 6 else 0), .int .u8 (if 7 < k then halfB lo 7 else 0)]
theorem rowB_step (hi lo : Int) (k : Nat) (h : k < 8) : ((rowB hi lo k).setIfInBounds k (.int .u8 (halfB hi k))).setIfInBounds (k + 8) (.int .u8 (halfB lo k)) = rowB hi lo (k + 1) := by
 have : k = 0 ∨ k = 1 ∨ k = 2 ∨ k = 3 ∨ k = 4 ∨ k = 5 ∨ k = 6 ∨ k = 7 := by omega
 rcases this with h | h | h | h | h | h | h | h <;> subst h <;> rfl
def u128_Bytes.f (a0_0 a0_1 : Int) : Option ByteArray := some (u128B a0_0 a0_1)
set_option maxRecDepth 100000 in
set_option maxHeartbeats 2000000 in
theorem u128Bytes.calls (hi lo : Int) (w : World) :
  Calls Tryz.prog 74 #[.agg #[.int .u64 hi, .int .u64 lo]] w fun e w' => e = .returned (.string (u128B hi lo)) ∧ Below w.heap.size w w' := by
 have hu := Tryz.underlying24
 have hu2 := Tryz.underlying131
 go_enter Tryz.func74, Tryz.ntmps74
 go_wp2_with fail
 go_loopw [5] (fun v wr => ∃ k : Nat, v = .int .i64 k ∧ k ≤ 8 ∧ Aside0 (wr.heap[w.heap.size + 1]? = some (.cells (rowB hi lo k) 131 (0, 0))) ∧ Aside0 (wr.heap[w.heap.size]? = some (.cells #[.int .u64 hi, .int .u64 lo] 24 (0, 0))) ∧ Aside0 (Below w.heap.size w wr)) (fun v _ => 8 - (intOf v).toNat)
 case atStart =>
  refine ⟨0, rfl, by omega, ⟨?_⟩, ⟨?_⟩, ⟨?_⟩⟩
  ·
   have := blk_new (w.alloc (.cells #[.int .u64 hi, .int .u64 lo] 24)) (.cells (rowB hi lo 0) 131)
   rw [show (w.alloc (.cells #[.int .u64 hi, .int .u64 lo] 24)).heap.size = w.heap.size + 1 by simp] at this
   exact this
  ·
   exact blk_alloc (blk_new w _) _
  ·
   repeat (first | exact Below.refl _ _ | apply below_alloc)
 case round =>
  obtain ⟨k, rfl, hk, HO, HX, HB⟩ := hrel
  by_cases hlt : k < 8
  ·
   have b1 : decide ((k : Int) < 8) = true := decide_eq_true (by omega)
   have c0 : wr.cell? ⟨w.heap.size, 0, none⟩ = some (.int .u64 hi) := blk_cell HX.out 0
   have c1 : wr.cell? ⟨w.heap.size, 1, none⟩ = some (.int .u64 lo) := blk_cell HX.out 1
   have hf : ∀ i, wr.frozen? ⟨w.heap.size + 1, i, none⟩ = false := fun i => blk_frozen HO.out i
   have p0 : (0 : Int) ≤ (k : Int) := by omega
   have p1 : (k : Int) < 16 := by omega
   have p2 : (k : Int) + 8 < 16 := by omega
   have p3 : (0 : Int) ≤ 56 - 8 * (k : Int) := by omega
   obtain ⟨v0, hv0⟩ : ∃ v, wr.cell? ⟨w.heap.size + 1, k, none⟩ = some v := by
    rw [blk_cell HO.out k, Array.getElem?_eq_getElem (by show k < 16; omega)]; exact ⟨_, rfl⟩
   obtain ⟨v1, hv1⟩ : ∃ v, wr.cell? ⟨w.heap.size + 1, k + 8, none⟩ = some v := by
    rw [blk_cell HO.out (k + 8), Array.getElem?_eq_getElem (by show k + 8 < 16; omega)]; exact ⟨_, rfl⟩
   have h8 := aM' (rowB_step hi lo k hlt)
   go_wp2_with fail
   clear hv0 hv1 hf c0 c1 b1 p0 p1 p2 p3
   go_roundw
   case rel =>
    refine ⟨k + 1, by go_num, by omega, ⟨?_⟩, ⟨?_⟩, ⟨?_⟩⟩
    ·
     rw [← h8.out]
     exact blk_set (blk_set HO.out k _) (k + 8) _
    ·
     exact blk_far (blk_far HX.out (show w.heap.size ≠ w.heap.size + 1 by omega) _) (show w.heap.size ≠ w.heap.size + 1 by omega) _
    ·
     exact below_set (below_set HB.out (Nat.le_add_right _ _)) (Nat.le_add_right _ _)
   case measure => simp [intOf]; omega
  ·
   have b1 : decide ((k : Int) < 8) = false := decide_eq_false (by omega)
   obtain rfl : k = 8 := by omega
   have hcv := run_convert_bytes_arg wr 96 5 Tryz.underlying96 Tryz.underlying5 (w.heap.size + 1) 0 16 16 ((List.range 8).map (halfB hi) ++ (List.range 8).map (halfB lo)) (by simp) (fun i hi16 => by
    rw [Nat.zero_add, blk_cell HO.out i]
    have : i = 0 ∨ i = 1 ∨ i = 2 ∨ i = 3 ∨ i = 4 ∨ i = 5 ∨ i = 6 ∨ i = 7 ∨ i = 8 ∨ i = 9 ∨ i = 10 ∨ i = 11 ∨ i = 12 ∨ i = 13 ∨ i = 14 ∨ i = 15 := by omega
    rcases this with h | h | h | h | h | h | h | h | h | h | h | h | h | h | h | h <;> subst h <;> rfl) 9 Tryz.underlying9
   go_wp2_with fail
   go_ret
   exact ⟨rfl, HB.out⟩
theorem u128_Bytes.calls (a0_0 : Int) (a0_1 : Int) (r : ByteArray) (w : World) (h : u128_Bytes.f a0_0 a0_1 = some r) :
  Calls Tryz.prog 74 #[.agg #[.int .u64 a0_0, .int .u64 a0_1]] w fun e w' => e = .returned (.string r) ∧ Below w.heap.size w w' := by
 cases h
 exact u128Bytes.calls a0_0 a0_1 w
end Go.Proofs.YtlmmpncdemblbaaGreatDoor.P
namespace Go.Proofs.YtlmmpncdemblbaaGreatDoor.P
open Go.RowKit Go.Proofs.YtlmmpncdemblbaaGreatDoorW.PrintWords Go.Proofs.YtlmmpncdemblbaaGreatDoorW.PrintLast Go.Proofs.YtlmmpncdemblbaaGreatDoorW.PrintMore
set_option linter.unusedVariables false
set_option linter.unusedSimpArgs false
set_option linter.unnecessarySimpa false
theorem dig_l0_step {l r : List Int} {x4 hi lo : Int} (hx : 0 ≤ x4 ∧ x4 < 4) (h0 : 0 ≤ lo) (h1 : lo < 18446744073709551616) (hl : l.length < 1000)
  (h : Ev (fun k => paymasterref01_digits.l0 k (l ++ [lo % 65536]) (x4 + 1) hi (lo / 65536)) r) : Ev (fun k => paymasterref01_digits.l0 k l x4 hi lo) r := by
 refine Ev.step (f := fun k => paymasterref01_digits.l0 k (l ++ [lo % 65536]) (x4 + 1) hi (lo / 65536)) (fun k => ?_) h
 have e1 : Int.tmod lo 65536 = lo % 65536 := Int.tmod_eq_emod_of_nonneg h0
 have e2 : Int.tdiv lo 65536 = lo / 65536 := Int.tdiv_eq_ediv_of_nonneg h0
 rw [paymasterref01_digits.l0, if_pos hx.2, if_pos (by omega), e1, e2, wrap64_id (by omega) (by omega), wrapu64_id (by omega) (by omega)]
theorem dig_l1_step {l r : List Int} {x5 hi lo : Int} (hx : 0 ≤ x5 ∧ x5 < 4) (h0 : 0 ≤ hi) (h1 : hi < 18446744073709551616) (hl : l.length < 1000)
  (h : Ev (fun k => paymasterref01_digits.l1 k (l ++ [hi % 65536]) (x5 + 1) (hi / 65536) lo) r) : Ev (fun k => paymasterref01_digits.l1 k l x5 hi lo) r := by
 refine Ev.step (f := fun k => paymasterref01_digits.l1 k (l ++ [hi % 65536]) (x5 + 1) (hi / 65536) lo) (fun k => ?_) h
 have e1 : Int.tmod hi 65536 = hi % 65536 := Int.tmod_eq_emod_of_nonneg h0
 have e2 : Int.tdiv hi 65536 = hi / 65536 := Int.tdiv_eq_ediv_of_nonneg h0
 rw [paymasterref01_digits.l1, if_pos hx.2, if_pos (by omega), e1, e2, wrap64_id (by omega) (by omega), wrapu64_id (by omega) (by omega)]
def digsI (hi lo : Int) : List Int := [lo % 65536, lo / 65536 % 65536, lo / 65536 / 65536 % 65536, lo / 65536 / 65536 / 65536 % 65536, hi % 65536, hi / 65536 % 65536, hi / 65536 / 65536 % 65536, hi / 65536 / 65536 / 65536 % 65536]
theorem digits_ev (hi lo : Int) (h0 : 0 ≤ hi) (h1 : hi < 18446744073709551616) (l0 : 0 ≤ lo) (l1 : lo < 18446744073709551616) : Ev (fun k => paymasterref01_digits.f k hi lo) (digsI hi lo) := by
 unfold paymasterref01_digits.f
 refine dig_l0_step (by omega) l0 l1 (by simp) ?_
 refine dig_l0_step (by omega) (by omega) (by omega) (by simp) ?_
 refine dig_l0_step (by omega) (by omega) (by omega) (by simp) ?_
 refine dig_l0_step (by omega) (by omega) (by omega) (by simp) ?_
 refine Ev.step (f := fun k => paymasterref01_digits.l1 k ([] ++ [lo % 65536] ++ [lo / 65536 % 65536] ++ [lo / 65536 / 65536 % 65536] ++ [lo / 65536 / 65536 / 65536 % 65536]) 0 hi (lo / 65536 / 65536 / 65536 / 65536)) (fun k => by rw [paymasterref01_digits.l0, if_neg (by decide)]) ?_
 refine dig_l1_step (by omega) h0 h1 (by simp) ?_
 refine dig_l1_step (by omega) (by omega) (by omega) (by simp) ?_
 refine dig_l1_step (by omega) (by omega) (by omega) (by simp) ?_
 refine dig_l1_step (by omega) (by omega) (by omega) (by simp) ?_
 refine Ev.step (f := fun _ => some (digsI hi lo)) (fun k => by rw [paymasterref01_digits.l1, if_neg (by decide)]; rfl) (Ev.now _)
theorem num_hi {l : List Int} {i h lo : Int} {r : Int × Int × Bool} (hi : 4 ≤ i ∧ i < 8) (hl : i < (l.length : Int)) (b0 : 0 ≤ h) (b1 : h < 281474976710656) (d0 : 0 ≤ rd l i) (d1 : rd l i < 65536)
  (k : Ev (fun k => paymasterref01_number.l0 k l (i - 1) (h * 65536 + rd l i) lo) r) : Ev (fun k => paymasterref01_number.l0 k l i h lo) r := by
 refine Ev.step (f := fun k => paymasterref01_number.j1 k l i false h lo) (fun k => by rw [paymasterref01_number.l0, if_pos (by omega), if_neg (by omega)]) ?_
 refine Ev.step (f := fun k => paymasterref01_number.j2 k l i true h lo) (fun k => by rw [paymasterref01_number.j1, if_neg (by decide), if_pos hi.2, decide_eq_true (by omega)]) ?_
 refine Ev.step (f := fun k => paymasterref01_number.l0 k l (i - 1) (h * 65536 + rd l i) lo) (fun k => ?_) k
 rw [paymasterref01_number.j2, if_pos rfl, if_pos (by omega), if_pos hl, if_neg (by omega), wrap64_id (by omega) (by omega), wrapu64_id (x := h * 65536) (by omega) (by omega), wrapu64_id (by omega) (by omega)]
theorem num_lo {l : List Int} {i h lo : Int} {r : Int × Int × Bool} (hi : 0 ≤ i ∧ i < 4) (hl : i < (l.length : Int)) (b0 : 0 ≤ lo) (b1 : lo < 281474976710656) (d0 : 0 ≤ rd l i) (d1 : rd l i < 65536)
  (k : Ev (fun k => paymasterref01_number.l0 k l (i - 1) h (lo * 65536 + rd l i)) r) : Ev (fun k => paymasterref01_number.l0 k l i h lo) r := by
 refine Ev.step (f := fun k => paymasterref01_number.j1 k l i false h lo) (fun k => by rw [paymasterref01_number.l0, if_pos (by omega), if_neg (by omega)]) ?_
 refine Ev.step (f := fun k => paymasterref01_number.j2 k l i false h lo) (fun k => by rw [paymasterref01_number.j1, if_neg (by decide), if_pos (by omega), decide_eq_false (by omega)]) ?_
 refine Ev.step (f := fun k => paymasterref01_number.l0 k l (i - 1) h (lo * 65536 + rd l i)) (fun k => ?_) k
 rw [paymasterref01_number.j2, if_neg (by decide), if_pos (by omega), if_pos (by omega), if_pos hl, wrap64_id (by omega) (by omega), wrapu64_id (x := lo * 65536) (by omega) (by omega), wrapu64_id (by omega) (by omega)]
structure Dig (x : Int) : Prop where
 h0 : 0 ≤ x
 h1 : x < 65536
theorem number_ev (d0 d1 d2 d3 d4 d5 d6 d7 c : Int) (h0 : Dig d0) (h1 : Dig d1) (h2 : Dig d2) (h3 : Dig d3) (h4 : Dig d4) (h5 : Dig d5) (h6 : Dig d6) (h7 : Dig d7) :
  Ev (fun k => paymasterref01_number.f k [d0, d1, d2, d3, d4, d5, d6, d7, c]) (if c = 0 then (((d7 * 65536 + d6) * 65536 + d5) * 65536 + d4, ((d3 * 65536 + d2) * 65536 + d1) * 65536 + d0, true) else (0, 0, false)) := by
 have e8 : rd [d0, d1, d2, d3, d4, d5, d6, d7, c] 8 = c := rfl
 have e7 : rd [d0, d1, d2, d3, d4, d5, d6, d7, c] 7 = d7 := rfl
 have e6 : rd [d0, d1, d2, d3, d4, d5, d6, d7, c] 6 = d6 := rfl
 have e5 : rd [d0, d1, d2, d3, d4, d5, d6, d7, c] 5 = d5 := rfl
 have e4 : rd [d0, d1, d2, d3, d4, d5, d6, d7, c] 4 = d4 := rfl
 have e3 : rd [d0, d1, d2, d3, d4, d5, d6, d7, c] 3 = d3 := rfl
 have e2 : rd [d0, d1, d2, d3, d4, d5, d6, d7, c] 2 = d2 := rfl
 have e1 : rd [d0, d1, d2, d3, d4, d5, d6, d7, c] 1 = d1 := rfl
 have e0 : rd [d0, d1, d2, d3, d4, d5, d6, d7, c] 0 = d0 := rfl
 obtain ⟨⟨a0, b0⟩, ⟨a1, b1⟩, ⟨a2, b2⟩, ⟨a3, b3⟩, ⟨a4, b4⟩, ⟨a5, b5⟩, ⟨a6, b6⟩, ⟨a7, b7⟩⟩ := And.intro h0 (And.intro h1 (And.intro h2 (And.intro h3 (And.intro h4 (And.intro h5 (And.intro h6 h7))))))
 unfold paymasterref01_number.f
 have ew : wrap64 (([d0, d1, d2, d3, d4, d5, d6, d7, c].length : Int) - 1) = 8 := by rw [wrap64_id] <;> simp
 rw [ew]
 by_cases hc : c = 0
 ·
  rw [if_pos hc]
  refine Ev.step (f := fun k => paymasterref01_number.j1 k [d0, d1, d2, d3, d4, d5, d6, d7, c] 8 false 0 0) (fun k => ?_) ?_
  ·
   rw [paymasterref01_number.l0, if_pos (by omega), if_pos (by omega), if_pos (by omega), if_pos (by simp), e8, hc]; rfl
  refine Ev.step (f := fun k => paymasterref01_number.j2 k [d0, d1, d2, d3, d4, d5, d6, d7, c] 8 false 0 0) (fun k => by rw [paymasterref01_number.j1, if_neg (by decide), if_neg (by decide)]) ?_
  refine Ev.step (f := fun k => paymasterref01_number.l0 k [d0, d1, d2, d3, d4, d5, d6, d7, c] 7 0 0) (fun k => by rw [paymasterref01_number.j2, if_neg (by decide), if_neg (by decide), wrap64_id (by decide) (by decide)]; rfl) ?_
  refine num_hi (by omega) (by simp) (by omega) (by omega) (by rw [e7]; omega) (by rw [e7]; omega) ?_
  rw [e7]
  refine num_hi (by omega) (by simp) (by omega) (by omega) (by simp only [Int.reduceSub]; rw [e6]; omega) (by simp only [Int.reduceSub]; rw [e6]; omega) ?_
  simp only [Int.reduceSub]
  rw [e6]
  refine num_hi (by omega) (by simp) (by omega) (by omega) (by rw [e5]; omega) (by rw [e5]; omega) ?_
  simp only [Int.reduceSub]
  rw [e5]
  refine num_hi (by omega) (by simp) (by omega) (by omega) (by rw [e4]; omega) (by rw [e4]; omega) ?_
  simp only [Int.reduceSub]
  rw [e4]
  refine num_lo (by omega) (by simp) (by omega) (by omega) (by rw [e3]; omega) (by rw [e3]; omega) ?_
  simp only [Int.reduceSub]
  rw [e3]
  refine num_lo (by omega) (by simp) (by omega) (by omega) (by rw [e2]; omega) (by rw [e2]; omega) ?_
  simp only [Int.reduceSub]
  rw [e2]
  refine num_lo (by omega) (by simp) (by omega) (by omega) (by rw [e1]; omega) (by rw [e1]; omega) ?_
  simp only [Int.reduceSub]
  rw [e1]
  refine num_lo (by omega) (by simp) (by omega) (by omega) (by rw [e0]; omega) (by rw [e0]; omega) ?_
  simp only [Int.reduceSub]
  rw [e0]
  refine Ev.step (f := fun _ => some _) (fun k => by rw [paymasterref01_number.l0, if_neg (by decide)]) (ev_eq (Ev.now _) ?_)
  simp only [Int.zero_mul, Int.zero_add]
 ·
  rw [if_neg hc]
  refine Ev.step (f := fun k => paymasterref01_number.j1 k [d0, d1, d2, d3, d4, d5, d6, d7, c] 8 true 0 0) (fun k => ?_) ?_
  ·
   rw [paymasterref01_number.l0, if_pos (by omega), if_pos (by omega), if_pos (by omega), if_pos (by simp), e8, bne_iff_ne.2 hc]
  exact Ev.step (f := fun _ => some (0, 0, false)) (fun k => by rw [paymasterref01_number.j1, if_pos rfl]) (Ev.now _)
theorem add_step {x y l : List Int} {c i : Int} (d e : Int) {r : Int × Int × Int} (hi : 0 ≤ i ∧ i < 8) (hx : x.length = 8) (hy : y.length = 8) (hl : l.length < 1000) (ex : rd x i = d) (ey : rd y i = e) (hd : Dig d) (he : Dig e) (hc : 0 ≤ c ∧ c ≤ 1)
  (k : Ev (fun k => paymasterref01_Add.l0 k x y ((d + e + c) / 65536) (l ++ [(d + e + c) % 65536]) (i + 1)) r) : Ev (fun k => paymasterref01_Add.l0 k x y c l i) r := by
 obtain ⟨a0, b0⟩ := hd
 obtain ⟨a1, b1⟩ := he
 refine Ev.step (f := fun k => paymasterref01_Add.l0 k x y ((d + e + c) / 65536) (l ++ [(d + e + c) % 65536]) (i + 1)) (fun k => ?_) k
 rw [paymasterref01_Add.l0, if_pos hi.2, if_pos hi.1, if_pos (by omega), if_pos (by omega), if_pos (by omega), ex, ey, wrapu64_id (x := d + e) (by omega) (by omega), wrapu64_id (x := d + e + c) (by omega) (by omega), Int.tdiv_eq_ediv_of_nonneg (by omega), Int.tmod_eq_emod_of_nonneg (by omega), wrapu64_id (by omega) (by omega), wrap64_id (by omega) (by omega)]
def addI128 (a0 a1 b0 b1 : Int) : Int × Int × Int :=
 if a0 + b0 + (a1 + b1) / 18446744073709551616 < 18446744073709551616 then (a0 + b0 + (a1 + b1) / 18446744073709551616, (a1 + b1) % 18446744073709551616, 0) else (0, 0, 10)
theorem u128Add_eq (a0 a1 b0 b1 : Int) (ha0 : 0 ≤ a0 ∧ a0 < 18446744073709551616) (ha1 : 0 ≤ a1 ∧ a1 < 18446744073709551616) (hb0 : 0 ≤ b0 ∧ b0 < 18446744073709551616) (hb1 : 0 ≤ b1 ∧ b1 < 18446744073709551616) :
  u128_Add.f a0 a1 b0 b1 = some (addI128 a0 a1 b0 b1) := by
 unfold u128_Add.f addI128
 rw [if_pos ⟨⟨ha0, ha1⟩, hb0, hb1⟩]
 split <;> rfl
theorem dig_mod (x : Int) : Dig (x % 65536) := ⟨by omega, by omega⟩
theorem val4 (x : Int) (h0 : 0 ≤ x) (h1 : x < 18446744073709551616) : ((x / 65536 / 65536 / 65536 % 65536 * 65536 + x / 65536 / 65536 % 65536) * 65536 + x / 65536 % 65536) * 65536 + x % 65536 = x := by omega
theorem refAdd_ev (a0 a1 b0 b1 : Int) (ha0 : 0 ≤ a0 ∧ a0 < 18446744073709551616) (ha1 : 0 ≤ a1 ∧ a1 < 18446744073709551616) (hb0 : 0 ≤ b0 ∧ b0 < 18446744073709551616) (hb1 : 0 ≤ b1 ∧ b1 < 18446744073709551616) :
  Ev (fun k => paymasterref01_Add.f k a0 a1 b0 b1) (addI128 a0 a1 b0 b1) := by
 unfold paymasterref01_Add.f
 refine Ev.bind (digits_ev a0 a1 ha0.1 ha0.2 ha1.1 ha1.2) (Ev.bind (digits_ev b0 b1 hb0.1 hb0.2 hb1.1 hb1.2) ?_)
 have va0 := val4 a0 ha0.1 ha0.2
 have va1 := val4 a1 ha1.1 ha1.2
 have vb0 := val4 b0 hb0.1 hb0.2
 have vb1 := val4 b1 hb1.1 hb1.2
 unfold digsI
 have g0 := dig_mod a1
 have g1 := dig_mod (a1 / 65536)
 have g2 := dig_mod (a1 / 65536 / 65536)
 have g3 := dig_mod (a1 / 65536 / 65536 / 65536)
 have g4 := dig_mod a0
 have g5 := dig_mod (a0 / 65536)
 have g6 := dig_mod (a0 / 65536 / 65536)
 have g7 := dig_mod (a0 / 65536 / 65536 / 65536)
 have k0 := dig_mod b1
 have k1 := dig_mod (b1 / 65536)
 have k2 := dig_mod (b1 / 65536 / 65536)
 have k3 := dig_mod (b1 / 65536 / 65536 / 65536)
 have k4 := dig_mod b0
 have k5 := dig_mod (b0 / 65536)
 have k6 := dig_mod (b0 / 65536 / 65536)
 have k7 := dig_mod (b0 / 65536 / 65536 / 65536)
 generalize a1 % 65536 = x0 at *
 generalize a1 / 65536 % 65536 = x1 at *
 generalize a1 / 65536 / 65536 % 65536 = x2 at *
 generalize a1 / 65536 / 65536 / 65536 % 65536 = x3 at *
 generalize a0 % 65536 = x4 at *
 generalize a0 / 65536 % 65536 = x5 at *
 generalize a0 / 65536 / 65536 % 65536 = x6 at *
 generalize a0 / 65536 / 65536 / 65536 % 65536 = x7 at *
 generalize b1 % 65536 = y0 at *
 generalize b1 / 65536 % 65536 = y1 at *
 generalize b1 / 65536 / 65536 % 65536 = y2 at *
 generalize b1 / 65536 / 65536 / 65536 % 65536 = y3 at *
 generalize b0 % 65536 = y4 at *
 generalize b0 / 65536 % 65536 = y5 at *
 generalize b0 / 65536 / 65536 % 65536 = y6 at *
 generalize b0 / 65536 / 65536 / 65536 % 65536 = y7 at *
 have step : ∀ c d e : Int, Dig d → Dig e → 0 ≤ c ∧ c ≤ 1 → 0 ≤ (d + e + c) / 65536 ∧ (d + e + c) / 65536 ≤ 1 := fun c d e hd he hc => by have := hd.1; have := hd.2; have := he.1; have := he.2; omega
 have s0 : (0 : Int) ≤ 0 ∧ (0 : Int) ≤ 1 := by omega
 have s1 := step 0 x0 y0 g0 k0 s0
 have s2 := step _ x1 y1 g1 k1 s1
 have s3 := step _ x2 y2 g2 k2 s2
 have s4 := step _ x3 y3 g3 k3 s3
 have s5 := step _ x4 y4 g4 k4 s4
 have s6 := step _ x5 y5 g5 k5 s5
 have s7 := step _ x6 y6 g6 k6 s6
 refine add_step x0 y0 (by omega) rfl rfl (by simp) rfl rfl g0 k0 s0 ?_
 refine add_step x1 y1 (by omega) rfl rfl (by simp) rfl rfl g1 k1 s1 ?_
 refine add_step x2 y2 (by omega) rfl rfl (by simp) rfl rfl g2 k2 s2 ?_
 refine add_step x3 y3 (by omega) rfl rfl (by simp) rfl rfl g3 k3 s3 ?_
 refine add_step x4 y4 (by omega) rfl rfl (by simp) rfl rfl g4 k4 s4 ?_
 refine add_step x5 y5 (by omega) rfl rfl (by simp) rfl rfl g5 k5 s5 ?_
 refine add_step x6 y6 (by omega) rfl rfl (by simp) rfl rfl g6 k6 s6 ?_
 refine add_step x7 y7 (by omega) rfl rfl (by simp) rfl rfl g7 k7 s7 ?_
 clear step
 refine Ev.step (f := fun k => _) (fun k => by rw [paymasterref01_Add.l0, if_neg (by decide), if_pos (by simp)]) ?_
 refine Ev.bind (number_ev _ _ _ _ _ _ _ _ _ (dig_mod _) (dig_mod _) (dig_mod _) (dig_mod _) (dig_mod _) (dig_mod _) (dig_mod _) (dig_mod _)) ?_
 have qr : ∀ n : Int, ∃ q m : Int, n / 65536 = q ∧ n % 65536 = m ∧ n = q * 65536 + m ∧ 0 ≤ m ∧ m < 65536 := fun n => ⟨_, _, rfl, rfl, by omega, by omega, by omega⟩
 obtain ⟨q0, m0, hq0, hm0, e0, l0, u0⟩ := qr (x0 + y0 + 0)
 simp only [hq0, hm0] at s1 s2 s3 s4 s5 s6 s7 ⊢
 clear hq0 hm0
 obtain ⟨q1, m1, hq1, hm1, e1, l1, u1⟩ := qr (x1 + y1 + q0)
 simp only [hq1, hm1] at s2 s3 s4 s5 s6 s7 ⊢
 clear hq1 hm1
 obtain ⟨q2, m2, hq2, hm2, e2, l2, u2⟩ := qr (x2 + y2 + q1)
 simp only [hq2, hm2] at s3 s4 s5 s6 s7 ⊢
 clear hq2 hm2
 obtain ⟨q3, m3, hq3, hm3, e3, l3, u3⟩ := qr (x3 + y3 + q2)
 simp only [hq3, hm3] at s4 s5 s6 s7 ⊢
 clear hq3 hm3
 obtain ⟨q4, m4, hq4, hm4, e4, l4, u4⟩ := qr (x4 + y4 + q3)
 simp only [hq4, hm4] at s5 s6 s7 ⊢
 clear hq4 hm4
 obtain ⟨q5, m5, hq5, hm5, e5, l5, u5⟩ := qr (x5 + y5 + q4)
 simp only [hq5, hm5] at s6 s7 ⊢
 clear hq5 hm5
 obtain ⟨q6, m6, hq6, hm6, e6, l6, u6⟩ := qr (x6 + y6 + q5)
 simp only [hq6, hm6] at s7 ⊢
 clear hq6 hm6
 obtain ⟨q7, m7, hq7, hm7, e7, l7, u7⟩ := qr (x7 + y7 + q6)
 simp only [hq7, hm7]
 clear hq7 hm7
 have hq70 : 0 ≤ q7 := by have := g7.h0; have := k7.h0; omega
 have hlo : a1 + b1 = q3 * 18446744073709551616 + (((m3 * 65536 + m2) * 65536 + m1) * 65536 + m0) := by omega
 have hhi : a0 + b0 + q3 = q7 * 18446744073709551616 + (((m7 * 65536 + m6) * 65536 + m5) * 65536 + m4) := by omega
 have hL : 0 ≤ ((m3 * 65536 + m2) * 65536 + m1) * 65536 + m0 ∧ ((m3 * 65536 + m2) * 65536 + m1) * 65536 + m0 < 18446744073709551616 := by omega
 have hH : 0 ≤ ((m7 * 65536 + m6) * 65536 + m5) * 65536 + m4 ∧ ((m7 * 65536 + m6) * 65536 + m5) * 65536 + m4 < 18446744073709551616 := by omega
 generalize ((m3 * 65536 + m2) * 65536 + m1) * 65536 + m0 = L at *
 generalize ((m7 * 65536 + m6) * 65536 + m5) * 65536 + m4 = H at *
 have h4 : (a1 + b1) / 18446744073709551616 = q3 := by omega
 have h5 : (a1 + b1) % 18446744073709551616 = L := by omega
 clear hlo e0 e1 e2 e3 e4 e5 e6 e7 va0 va1 vb0 vb1 s0 s1 s2 s3 s4 s5 s6 s7 l0 l1 l2 l3 l4 l5 l6 l7 u0 u1 u2 u3 u4 u5 u6 u7
 unfold addI128
 rw [h4, h5]
 clear h4 h5
 by_cases hq : q7 = 0
 ·
  have hs : a0 + b0 + q3 = H := by rw [hhi, hq]; omega
  rw [hs, if_pos hH.2]
  exact Ev.some_ (fun k => by simp [hq])
 ·
  have hs : ¬ a0 + b0 + q3 < 18446744073709551616 := by omega
  rw [if_neg hs]
  exact Ev.some_ (fun k => by simp [hq])
theorem bytes_step {x l : List Int} {i : Int} {r : ByteArray} (hi : 0 ≤ i ∧ i < 8) (hx : x.length = 8) (hl : l.length < 1000) (d : Int) (ex : rd x i = d) (hd : Dig d)
  (k : Ev (fun k => paymasterref01_Bytes.l0 k x (l ++ [d / 256, d % 256]) (i - 1)) r) : Ev (fun k => paymasterref01_Bytes.l0 k x l i) r := by
 obtain ⟨a0, b0⟩ := hd
 refine Ev.step (f := fun k => paymasterref01_Bytes.l0 k x (l ++ [d / 256, d % 256]) (i - 1)) (fun k => ?_) k
 rw [paymasterref01_Bytes.l0, if_pos (by omega), if_pos hi.1, if_pos (by omega), ex, Int.tdiv_eq_ediv_of_nonneg (by omega), Int.tmod_eq_emod_of_nonneg (by omega), wrapu64_id (by omega) (by omega)]
 simp only [Option.bind_some]
 rw [if_pos (by simp; omega), wrap64_id (by omega) (by omega), show d / 256 % 256 = d / 256 by omega, show d % 256 % 256 = d % 256 by omega]
theorem refBytes_ev (hi lo : Int) (h0 : 0 ≤ hi ∧ hi < 18446744073709551616) (l0 : 0 ≤ lo ∧ lo < 18446744073709551616) : Ev (fun k => paymasterref01_Bytes.f k hi lo) (u128B hi lo) := by
 unfold paymasterref01_Bytes.f
 refine Ev.bind (digits_ev hi lo h0.1 h0.2 l0.1 l0.2) ?_
 unfold digsI
 refine bytes_step (by omega) rfl (by simp) (hi / 65536 / 65536 / 65536 % 65536) rfl (dig_mod _) ?_
 refine bytes_step (by omega) rfl (by simp) (hi / 65536 / 65536 % 65536) rfl (dig_mod _) ?_
 refine bytes_step (by omega) rfl (by simp) (hi / 65536 % 65536) rfl (dig_mod _) ?_
 refine bytes_step (by omega) rfl (by simp) (hi % 65536) rfl (dig_mod _) ?_
 refine bytes_step (by omega) rfl (by simp) (lo / 65536 / 65536 / 65536 % 65536) rfl (dig_mod _) ?_
 refine bytes_step (by omega) rfl (by simp) (lo / 65536 / 65536 % 65536) rfl (dig_mod _) ?_
 refine bytes_step (by omega) rfl (by simp) (lo / 65536 % 65536) rfl (dig_mod _) ?_
 refine bytes_step (by omega) rfl (by simp) (lo % 65536) rfl (dig_mod _) ?_
 refine Ev.step (f := fun _ => some _) (fun k => by rw [paymasterref01_Bytes.l0, if_neg (by decide)]) (ev_eq (Ev.now _) ?_)
 unfold u128B
 congr 1
 simp only [List.range, List.range.loop, List.map_cons, List.map_nil, List.nil_append, List.cons_append, halfB, Nat.reduceMul, Nat.reduceSub, Int.reducePow, List.cons.injEq, and_true]
 refine ⟨?_, ?_, ?_, ?_, ?_, ?_, ?_, ?_, ?_, ?_, ?_, ?_, ?_, ?_, ?_, ?_⟩ <;> omega
theorem u128B_size (hi lo : Int) : (u128B hi lo).size = 16 := by rw [u128B, strOfNums_size]; rfl
theorem u128Bytes_eq (hi lo : Int) : u128_Bytes.f hi lo = some (u128B hi lo) := rfl
end Go.Proofs.YtlmmpncdemblbaaGreatDoor.P
namespace Go.Proofs.YtlmmpncdemblbaaGreatDoor.P
open Go.RowKit Go.Proofs.YtlmmpncdemblbaaGreatDoorW.PrintWords Go.Proofs.YtlmmpncdemblbaaGreatDoorW.PrintLast Go.Proofs.YtlmmpncdemblbaaGreatDoorW.PrintMore
set_option linter.unusedVariables false
set_option linter.unusedSimpArgs false
set_option linter.unnecessarySimpa false
def mayLeafI (l : SLeaf) : Bool := if 32 < l.f2.size then false else if l.f0 = true then (if l.f1.toList = [] then (l.f3.f0 == 0 && (l.f3.f1 == 0)) else false) else mayIdI l.f1
theorem tagMayLeaf_eq (l : SLeaf) (hid : l.f1.size ≤ 1000000) : tag_MayLeaf.f l.f0 l.f1 l.f2 l.f3.f0 l.f3.f1 = some (mayLeafI l) := by
 unfold tag_MayLeaf.f mayLeafI
 by_cases h1 : 32 < l.f2.size
 ·
  rw [if_pos (by omega), if_pos h1]
 ·
  rw [if_neg (by omega), if_neg h1]
  cases l.f0 with
  | true =>
   simp only [if_true]
   by_cases h2 : l.f1.toList = []
   ·
    rw [if_pos h2, if_pos h2]
   ·
    rw [if_neg h2, if_neg h2]
  | false =>
   simp only [Bool.false_eq_true, if_false]
   have e : tag_MayId.f l.f1 = some (mayIdI l.f1) := by unfold tag_MayId.f; rw [if_pos hid]
   rw [e]; rfl
def szI (s : ByteArray) : ByteArray := strOfNums [(s.size : Int) % 256] ++ s
theorem szI_size (s : ByteArray) : (szI s).size = 1 + s.size := by
 rw [szI, ByteArray.size_append, strOfNums_size]; rfl
def leafTextI (l : SLeaf) : ByteArray := if mayLeafI l = true then (if l.f0 = true then strOfNums [2] ++ szI l.f2 else strOfNums [0] ++ szI l.f1 ++ szI l.f2 ++ u128B l.f3.f0 l.f3.f1) else ⟨#[]⟩
theorem tagSized_eq (s : ByteArray) (hs : s.size ≤ 1000000) : tag_sized.f s = some (szI s) := by
 unfold tag_sized.f szI
 simp only [Option.bind_some]
 rw [if_pos (by rw [strOfNums_size]; show 1 + _ ≤ _; omega)]
end Go.Proofs.YtlmmpncdemblbaaGreatDoor.P
namespace Go.Proofs.YtlmmpncdemblbaaGreatDoor.P
open Go.RowKit Go.Proofs.YtlmmpncdemblbaaGreatDoorW.PrintWords Go.Proofs.YtlmmpncdemblbaaGreatDoorW.PrintLast Go.Proofs.YtlmmpncdemblbaaGreatDoorW.PrintMore
set_option linter.unusedVariables false
set_option linter.unusedSimpArgs false
set_option linter.unnecessarySimpa false
def sel (b : Bool) (v u : Value) : Value := match b with | true => v | false => u
theorem sel_true (v u : Value) : sel true v u = v := rfl
def rgNeeds (o : Oper) : List Nat := (o.after.toList.filter (fun e => Region.binds .any e)).map (fun e => e.on)
def rgOrd (ops : Array Oper) : Bool := (List.range ops.size).all fun i => match ops[i]? with
 | some o => (rgNeeds o).all (fun j => decide (j < i))
 | none => true
def upd (l : Nat → Bool) (i : Nat) : Nat → Bool := fun j => if j = i then true else l j
def rgUndone (n : Nat) (l : Nat → Bool) : Nat := (List.range n).countP (fun j => !l j)
theorem rgUndone_zero {n : Nat} {l : Nat → Bool} (h : rgUndone n l = 0) : ∀ i, i < n → l i = true := by
 intro i hi
 have := List.countP_eq_zero.1 h i (List.mem_range.2 hi)
 simpa using this
theorem countP_upd (l : Nat → Bool) (i : Nat) (hl : l i = false) : ∀ L : List Nat, L.Nodup → i ∈ L → L.countP (fun j => !upd l i j) + 1 = L.countP (fun j => !l j)
 | [], _, h => absurd h (List.not_mem_nil)
 | x :: L, hn, h => by
  rw [List.countP_cons, List.countP_cons]
  by_cases e : x = i
  ·
   subst e
   have hx : x ∉ L := (List.nodup_cons.1 hn).1
   have e1 : L.countP (fun j => !upd l x j) = L.countP (fun j => !l j) := by
    refine List.countP_congr (fun j hj => ?_)
    have : j ≠ x := fun e => hx (e ▸ hj)
    simp [upd, this]
   rw [e1]; simp [upd, hl]
  ·
   have := countP_upd l i hl L (List.nodup_cons.1 hn).2 ((List.mem_cons.1 h).resolve_left (fun e' => e e'.symm))
   have e2 : upd l i x = l x := by simp [upd, e]
   rw [e2]; omega
theorem rgUndone_upd {n i : Nat} {l : Nat → Bool} (hi : i < n) (hl : l i = false) : rgUndone n (upd l i) + 1 = rgUndone n l := countP_upd l i hl _ List.nodup_range (List.mem_range.2 hi)
section
variable {P : Program} {ops : Array Oper} {Q : Exit → Act → World → Prop}
def StepAt (P : Program) (ops : Array Oper) (Q : Exit → Act → World → Prop) (I : (Nat → Bool) → Act → World → Prop) (i : Nat) : Prop :=
 ∀ o, ops[i]? = some o → ∀ l a w, I l a w → l i = false → (∀ j ∈ rgNeeds o, l j = true) → if Region.wanted o (yielded ops a.tmps) = true then o.wp P a w (fun a' w' => I (upd l i) a' w') Q else I (upd l i) (a.put o.dst undef) w
theorem rg_any (I : (Nat → Bool) → Act → World → Prop) (hord : rgOrd ops = true) (hstep : ∀ i, i < ops.size → StepAt P ops Q I i) (hend : ∀ l a w, I l a w → (∀ i, i < ops.size → l i = true) → Q .normal a w) :
  ∀ (fuel : Nat) (arr : Array Bool) (a : Act) (w : World), arr.size = ops.size → I (fun j => arr.getD j false) a w → rgUndone ops.size (fun j => arr.getD j false) ≤ fuel → wpAny P .any ops Q fuel arr a w := by
 have hready : ∀ arr : Array Bool, arr.size = ops.size → Region.ready .any ops arr = [] → ∀ i, i < ops.size → arr.getD i false = true := by
  intro arr hs hr i
  induction i using Nat.strongRecOn with
  | ind i ih =>
   intro hi
   cases hb : arr.getD i false with
   | true => rfl
   | false =>
    exfalso
    have ho : ops[i]? = some ops[i] := Array.getElem?_eq_getElem hi
    have hall : (rgNeeds ops[i]).all (fun j => decide (j < i)) = true := by
     have := List.all_eq_true.1 hord i (List.mem_range.2 hi)
     simp only [ho] at this
     exact this
    have hmem : i ∈ Region.ready .any ops arr := by
     unfold Region.ready
     rw [List.mem_filter]
     refine ⟨List.mem_range.2 hi, ?_⟩
     have h1 : arr.getD i true = false := by
      simp only [Array.getD_eq_getD_getElem?] at hb ⊢
      rw [Array.getElem?_eq_getElem (by omega)] at hb ⊢
      simpa using hb
     simp only [h1, Bool.not_false, Bool.true_and, ho, Option.map_some, Option.getD_some]
     rw [← Array.all_toList, List.all_eq_true]
     intro e he
     cases hbd : Region.binds .any e with
     | false => rfl
     | true =>
      have hj : e.on ∈ rgNeeds ops[i] := List.mem_map.2 ⟨e, List.mem_filter.2 ⟨he, hbd⟩, rfl⟩
      have hlt : e.on < i := by simpa using List.all_eq_true.1 hall e.on hj
      rw [ih e.on hlt (by omega)]; rfl
    rw [hr] at hmem
    exact absurd hmem (List.not_mem_nil)
 intro fuel
 induction fuel with
 | zero =>
  intro arr a w hs hI hu
  have hd := rgUndone_zero (Nat.le_zero.1 hu)
  refine ⟨?_, hend _ a w hI hd⟩
  unfold Region.ready
  rw [List.filter_eq_nil_iff]
  intro i hi
  have h1 := hd i (List.mem_range.1 hi)
  have h2 : arr.getD i true = true := by
   have hlt := List.mem_range.1 hi
   simp only [Array.getD_eq_getD_getElem?] at h1 ⊢
   rw [Array.getElem?_eq_getElem (by omega)] at h1 ⊢
   simpa using h1
  simp [h2]
 | succ fuel ih =>
  intro arr a w hs hI hu
  refine ⟨fun hr => hend _ a w hI (hready arr hs hr), fun i hi => ?_⟩
  unfold Region.ready at hi
  rw [List.mem_filter] at hi
  obtain ⟨hir, hi2⟩ := hi
  have hlt := List.mem_range.1 hir
  have ho : ops[i]? = some ops[i] := Array.getElem?_eq_getElem hlt
  simp only [ho, Option.map_some, Option.getD_some, Bool.and_eq_true, Bool.not_eq_true'] at hi2
  have hb : arr.getD i false = false := by
   have h1 := hi2.1
   simp only [Array.getD_eq_getD_getElem?] at h1 ⊢
   rw [Array.getElem?_eq_getElem (by omega)] at h1 ⊢
   simpa using h1
  have hn : ∀ j ∈ rgNeeds ops[i], arr.getD j false = true := by
   intro j hj
   obtain ⟨e, he, rfl⟩ := List.mem_map.1 hj
   obtain ⟨he1, he2⟩ := List.mem_filter.1 he
   have h3 := hi2.2
   rw [← Array.all_toList, List.all_eq_true] at h3
   have := h3 e he1
   rw [he2] at this
   simpa using this
  have hst := hstep i hlt _ ho _ a w hI hb hn
  have hK : ∀ a' w', I (upd (fun j => arr.getD j false) i) a' w' → wpAny P .any ops Q fuel (arr.setIfInBounds i true) a' w' := by
   intro a' w' h'
   have e : (fun j => (arr.setIfInBounds i true).getD j false) = upd (fun j => arr.getD j false) i := by
    funext j
    unfold upd
    simp only [Array.getD_eq_getD_getElem?]
    by_cases e : j = i
    ·
     subst e
     rw [if_pos rfl, Array.getElem?_setIfInBounds_self_of_lt (by omega)]; rfl
    ·
     rw [if_neg e, Array.getElem?_setIfInBounds_ne (fun h => e h.symm)]
   refine ih _ a' w' (by simpa using hs) (by rw [e]; exact h') ?_
   rw [e]
   have := rgUndone_upd (l := fun j => arr.getD j false) hlt hb
   omega
  unfold wpOp
  rw [ho]
  dsimp only
  split
  ·
   rename_i hw
   rw [if_pos hw] at hst
   exact .inl (Oper.wp_mono hK hst)
  ·
   rename_i hw
   rw [if_neg hw] at hst
   exact hK _ _ hst
theorem region_inv {id : Nat} {a : Act} {w : World} (I : (Nat → Bool) → Act → World → Prop) (n : Nat) (hm : P.follows .mixedOrders = true) (hn : ops.size = n) (hord : rgOrd ops = true) (h0 : I (fun _ => false) a w.drew)
  (hend : ∀ l a w, I l a w → (∀ i, i < n → l i = true) → Q .normal a w) (hstep : ∀ i, i < n → StepAt P ops Q I i) : (Code.region id ops true).wp P Q a w := by
 subst hn
 refine wp_region_any hm (rg_any I hord hstep hend ops.size _ a _ (by simp) ?_ ?_)
 ·
  have e : (fun j => (Array.replicate ops.size false).getD j false) = fun _ => false := by
   funext j
   simp only [Array.getD_eq_getD_getElem?, Array.getElem?_replicate]
   split <;> rfl
  rw [e]; exact h0
 ·
  unfold rgUndone
  have := List.countP_le_length (p := fun j => !(Array.replicate ops.size false).getD j false) (l := List.range ops.size)
  simpa using this
theorem rg_cons {p : Nat → Prop} {n : Nat} (h : ∀ i, i < n → p i) (hn : p n) : ∀ i, i < n + 1 → p i := fun i hi => by
 by_cases e : i = n
 ·
  subst e; exact hn
 ·
  exact h i (by omega)
theorem rg_nil {p : Nat → Prop} : ∀ i, i < 0 → p i := fun i hi => absurd hi (Nat.not_lt_zero _)
theorem rg_step {I : (Nat → Bool) → Act → World → Prop} {i : Nat} {oi : Oper} (hi : ops[i]? = some oi)
  (h : ∀ l a w, I l a w → l i = false → (∀ j ∈ rgNeeds oi, l j = true) → if Region.wanted oi (yielded ops a.tmps) = true then oi.wp P a w (fun a' w' => I (upd l i) a' w') Q else I (upd l i) (a.put oi.dst undef) w) : StepAt P ops Q I i := by
 intro o ho
 rw [hi] at ho
 cases ho
 exact h
theorem rg_val {K : Act → World → Prop} {oi : Oper} {a : Act} {w w' : World} {v : Value} (hw : Region.wanted oi (yielded ops a.tmps) = true) (hrun : (execOp a.eval oi).run P w = .ok (.value v) w') (hK : K (a.put oi.dst v) w') :
  if Region.wanted oi (yielded ops a.tmps) = true then oi.wp P a w K Q else K (a.put oi.dst undef) w := by
 rw [if_pos hw]; unfold Oper.wp; rw [hrun]; exact hK
theorem rg_skip {K : Act → World → Prop} {oi : Oper} {a : Act} {w w' : World} (hw : Region.wanted oi (yielded ops a.tmps) = true) (hrun : (execOp a.eval oi).run P w = .ok .skip w') (hK : K (a.put oi.dst undef) w') :
  if Region.wanted oi (yielded ops a.tmps) = true then oi.wp P a w K Q else K (a.put oi.dst undef) w := by
 rw [if_pos hw]; unfold Oper.wp; rw [hrun]; exact hK
theorem rg_call {K : Act → World → Prop} {oi : Oper} {a : Act} {w : World} {f : FuncId} {args : Array Value} (hw : Region.wanted oi (yielded ops a.tmps) = true) (hrun : (execOp a.eval oi).run P w = .ok (.enter f args) w)
  (h : Calls P f args w fun e w' => ∃ v, e = .returned v ∧ K (a.put oi.dst v) w') :
  if Region.wanted oi (yielded ops a.tmps) = true then oi.wp P a w K Q else K (a.put oi.dst undef) w := by
 rw [if_pos hw]; unfold Oper.wp; rw [hrun]
 exact h.mono fun e w' ⟨v, he, hk⟩ => by subst he; exact hk
end
end Go.Proofs.YtlmmpncdemblbaaGreatDoor.P
namespace Go.Proofs.YtlmmpncdemblbaaGreatDoor.P
open Go.RowKit Go.Proofs.YtlmmpncdemblbaaGreatDoorW.PrintWords Go.Proofs.YtlmmpncdemblbaaGreatDoorW.PrintLast Go.Proofs.YtlmmpncdemblbaaGreatDoorW.PrintMore
set_option linter.unusedVariables false
set_option linter.unusedSimpArgs false
set_option linter.unnecessarySimpa false
attribute [local go_sem] sel_true
abbrev leafC (l : SLeaf) : Array Value := #[.bool l.f0, .string l.f1, .string l.f2, .int .u64 l.f3.f0, .int .u64 l.f3.f1]
structure LtS (w W : World) (l : SLeaf) : Prop where
 hB : Below w.heap.size w W
 h0 : W.heap[w.heap.size]? = some (.cells (leafC l) 34 (0, 0))
theorem LtS.below {w W W' : World} {l : SLeaf} (h : LtS w W l) (hb : Below W.heap.size W W') : LtS w W' l := ⟨h.hB.trans (hb.mono h.hB.size), blk_below h.h0 hb⟩
set_option maxRecDepth 100000 in
set_option maxHeartbeats 2000000 in
theorem leafText.calls (l : SLeaf) (hid : l.f1.size ≤ 1000000) (hsa : l.f2.size ≤ 1000000) (w : World) (hK : LaidT w) :
  Calls Tryz.prog 56 #[.agg (leafC l)] w fun e w' => e = .returned (.string (leafTextI l)) ∧ Below w.heap.size w w' := by
 have HL := aM' hid
 have HR := aM' hsa
 have HK := aM' hK
 have HM := aM' (tagMayLeaf_eq l hid)
 have HT := aM' (show leafTextI l = if mayLeafI l = true then (if l.f0 = true then strOfNums [2] ++ szI l.f2 else strOfNums [0] ++ szI l.f1 ++ szI l.f2 ++ u128B l.f3.f0 l.f3.f1) else ⟨#[]⟩ from rfl)
 obtain ⟨bi, hbi⟩ : ∃ b, b = szI l.f1 := ⟨_, rfl⟩
 obtain ⟨bs, hbs⟩ : ∃ b, b = szI l.f2 := ⟨_, rfl⟩
 obtain ⟨bb, hbb⟩ : ∃ b, b = u128B l.f3.f0 l.f3.f1 := ⟨_, rfl⟩
 have HBl := aM' (show bi.size ≤ 1000001 by rw [hbi, szI_size]; omega)
 have HBr := aM' (show bs.size ≤ 1000001 by rw [hbs, szI_size]; omega)
 have HBb := aM' (show bb.size = 16 by rw [hbb, u128B_size])
 have HFi := aM' (show tag_sized.f l.f1 = some bi by rw [hbi]; exact tagSized_eq _ hid)
 have HFs := aM' (show tag_sized.f l.f2 = some bs by rw [hbs]; exact tagSized_eq _ hsa)
 have HFb := aM' (show u128_Bytes.f l.f3.f0 l.f3.f1 = some bb by rw [hbb]; exact u128Bytes_eq _ _)
 rw [← hbi, ← hbs, ← hbb] at HT
 clear hbi hbs hbb hid hsa hK
 generalize leafTextI l = tx at HT ⊢
 go_enter Tryz.func56, Tryz.ntmps56
 go_wp2_with fail
 have HS := aM' (show LtS w (w.alloc (.cells (leafC l) 34)) l from ⟨below_alloc (Below.refl _ _) _, blk_new w _⟩)
 refine (tag_MayLeaf.calls l.f0 l.f1 l.f2 l.f3.f0 l.f3.f1 _ _ (HK.out.below HS.out.hB) HM.out).mono ?_
 rintro x w1 ⟨rfl, hb⟩
 have hS1 := HS.out.below hb
 clear HS hb
 have HS := aM' hS1
 have cp : w1.cell? ⟨w.heap.size, 0, none⟩ = some (.bool l.f0) := blk_cell hS1.h0 0
 clear hS1
 cases hm : mayLeafI l with
 | false =>
  rw [hm] at HT
  have HT2 := aM' (HT.out.trans (if_neg (by decide)))
  clear hm HT
  go_wp2
  go_ret
  exact ⟨by rw [HT2.out]; rfl, HS.out.hB⟩
 | true =>
  rw [hm] at HT
  have HT2 := aM' (HT.out.trans (if_pos rfl))
  clear hm HT
  cases hp : l.f0 with
  | true =>
   rw [hp] at HT2 cp
   have HT3 := aM' (HT2.out.trans (if_pos rfl))
   clear HT2
   go_wp2
   refine region_inv (fun l_ a W => ∃ γ : Nat, a = ({ tmps := #[.agg (leafC l), .pointer (some ⟨w.heap.size, 0, none⟩), sel (l_ 6) (.string ((⟨#[2]⟩ : ByteArray) ++ bs)) (.string ⟨#[]⟩), .bool false, .agg #[.bool true, .string l.f1, .string l.f2, .int .u64 l.f3.f0, .int .u64 l.f3.f1], .bool true, .bool false, .bool true, .pointer (some ⟨w.heap.size, 0, none⟩), .bool true, sel (l_ 0) (.slice (some ⟨γ, 0, none⟩) 1 1) (undef), sel (l_ 1) (.string (⟨#[2]⟩ : ByteArray)) (undef), sel (l_ 2) (.pointer (some ⟨w.heap.size, 2, none⟩)) (undef), sel (l_ 3) (.string l.f2) (undef), sel (l_ 4) (.string bs) (undef), sel (l_ 5) (.string ((⟨#[2]⟩ : ByteArray) ++ bs)) (undef), undef, undef, undef, undef, undef, undef, undef, undef, undef, undef, undef, undef, undef, undef], defers := [] } : Act) ∧ (LtS w W l ∧ (l_ 0 = true → W.heap[γ]? = some (.cells #[.int .u8 2] 5 (0, 0))))) 7 rfl rfl (by kernel_rfl) ?h0 ?hend ?hstep
   case h0 => exact ⟨0, rfl, HS.out.below (below_drew (Below.refl _ _)), fun h => by cases h⟩
   case hstep =>
    refine rg_cons (rg_cons (rg_cons (rg_cons (rg_cons (rg_cons (rg_cons (rg_nil) ?s0) ?s1) ?s2) ?s3) ?s4) ?s5) ?s6
    case s0 =>
     refine rg_step rfl ?_
     rintro l_ a W ⟨γ, rfl, hI⟩ hl hd
     clear hd
     refine rg_val (v := .slice (some ⟨W.heap.size, 0, none⟩) 1 1) (w' := W.alloc (.cells #[.int .u8 2] 5)) rfl (by go_simp) ?_
     refine ⟨W.heap.size, ?_, ?_⟩
     ·
      simp only [Act.put, List.setIfInBounds_toArray, List.set_cons_zero, List.set_cons_succ]; rfl
     ·
      exact ⟨hI.1.below (below_alloc (Below.refl _ _) _), fun _ => blk_new W _⟩
    case s1 =>
     refine rg_step rfl ?_
     rintro l_ a W ⟨γ, rfl, hI⟩ hl hd
     have d0 := hd 0 (by decide)
     clear hd
     have y0 := blk_cell (hI.2 d0) 0
     simp at y0
     refine rg_val (v := .string (⟨#[2]⟩ : ByteArray)) (w' := W) rfl ?_ ?_
     ·
      have hcv := run_convert_bytes_arg (P := Tryz.prog) (w := W) 96 5 Tryz.underlying96 Tryz.underlying5 γ 0 1 1 [2] rfl (fun i hi => by obtain rfl : i = 0 := (by omega); exact y0) 9 Tryz.underlying9
      rw [show strOfNums [2] = (⟨#[2]⟩ : ByteArray) from rfl] at hcv
      go_simp
     refine ⟨γ, ?_, ?_⟩
     ·
      simp only [Act.put, List.setIfInBounds_toArray, List.set_cons_zero, List.set_cons_succ]; rfl
     ·
      exact hI
    case s2 =>
     refine rg_step rfl ?_
     rintro l_ a W ⟨γ, rfl, hI⟩ hl hd
     clear hd
     refine rg_val (v := .pointer (some ⟨w.heap.size, 2, none⟩)) (w' := W) rfl (by go_simp) ?_
     refine ⟨γ, ?_, ?_⟩
     ·
      simp only [Act.put, List.setIfInBounds_toArray, List.set_cons_zero, List.set_cons_succ]; rfl
     ·
      exact hI
    case s3 =>
     refine rg_step rfl ?_
     rintro l_ a W ⟨γ, rfl, hI⟩ hl hd
     have d2 := hd 2 (by decide)
     clear hd
     have x2 := blk_cell (hI.1.h0) 2
     simp at x2
     refine rg_val (v := .string l.f2) (w' := W) rfl (by go_simp) ?_
     refine ⟨γ, ?_, ?_⟩
     ·
      simp only [Act.put, List.setIfInBounds_toArray, List.set_cons_zero, List.set_cons_succ]; rfl
     ·
      exact hI
    case s4 =>
     refine rg_step rfl ?_
     rintro l_ a W ⟨γ, rfl, hI⟩ hl hd
     have d3 := hd 3 (by decide)
     clear hd
     refine rg_call rfl (by go_simp; exact ⟨rfl, rfl⟩) ?_
     refine (tag_sized.calls _ _ _ HFs.out).mono ?_
     rintro x W' ⟨rfl, hb⟩
     refine ⟨_, rfl, γ, ?_, ?_⟩
     ·
      simp only [Act.put, List.setIfInBounds_toArray, List.set_cons_zero, List.set_cons_succ]; rfl
     ·
      exact ⟨hI.1.below hb, fun h => blk_below (hI.2 h) hb⟩
    case s5 =>
     refine rg_step rfl ?_
     rintro l_ a W ⟨γ, rfl, hI⟩ hl hd
     have d1 := hd 1 (by decide)
     have d4 := hd 4 (by decide)
     clear hd
     refine rg_val (v := .string ((⟨#[2]⟩ : ByteArray) ++ bs)) (w' := W) rfl (by go_simp; have := HBl.out; have := HBr.out; have := HBb.out; omega) ?_
     refine ⟨γ, ?_, ?_⟩
     ·
      simp only [Act.put, List.setIfInBounds_toArray, List.set_cons_zero, List.set_cons_succ]; rfl
     ·
      exact hI
    case s6 =>
     refine rg_step rfl ?_
     rintro l_ a W ⟨γ, rfl, hI⟩ hl hd
     have d5 := hd 5 (by decide)
     clear hd
     refine rg_val (v := .string ((⟨#[2]⟩ : ByteArray) ++ bs)) (w' := W) rfl (by go_simp) ?_
     refine ⟨γ, ?_, ?_⟩
     ·
      simp only [Act.put, List.setIfInBounds_toArray, List.set_cons_zero, List.set_cons_succ]; rfl
     ·
      exact hI
   case hend =>
    rintro l_ a W ⟨γ, rfl, hI⟩ hall
    have e0 := hall 0 (by decide)
    have e1 := hall 1 (by decide)
    have e2 := hall 2 (by decide)
    have e3 := hall 3 (by decide)
    have e4 := hall 4 (by decide)
    have e5 := hall 5 (by decide)
    have e6 := hall 6 (by decide)
    clear hall
    simp only [e0, e1, e2, e3, e4, e5, e6, sel_true]
    clear e0 e1 e2 e3 e4 e5 e6
    have HI := aM' hI.1
    clear hI
    go_wp2
    go_ret
    exact ⟨by rw [HT3.out]; rfl, HI.out.hB⟩
  | false =>
   rw [hp] at HT2 cp
   have HT3 := aM' (HT2.out.trans (if_neg (by decide)))
   clear HT2
   go_wp2
   refine region_inv (fun l_ a W => ∃ γ : Nat, a = ({ tmps := #[.agg (leafC l), .pointer (some ⟨w.heap.size, 0, none⟩), sel (l_ 14) (.string ((⟨#[0]⟩ : ByteArray) ++ bi ++ bs ++ bb)) (.string ⟨#[]⟩), .bool false, .agg #[.bool false, .string l.f1, .string l.f2, .int .u64 l.f3.f0, .int .u64 l.f3.f1], .bool true, .bool false, .bool false, .pointer (some ⟨w.heap.size, 0, none⟩), .bool false, undef, undef, undef, undef, undef, undef, sel (l_ 0) (.slice (some ⟨γ, 0, none⟩) 1 1) (undef), sel (l_ 1) (.string (⟨#[0]⟩ : ByteArray)) (undef), sel (l_ 2) (.pointer (some ⟨w.heap.size, 1, none⟩)) (undef), sel (l_ 3) (.string l.f1) (undef), sel (l_ 4) (.string bi) (undef), sel (l_ 5) (.string ((⟨#[0]⟩ : ByteArray) ++ bi)) (undef), sel (l_ 6) (.pointer (some ⟨w.heap.size, 2, none⟩)) (undef), sel (l_ 7) (.string l.f2) (undef), sel (l_ 8) (.string bs) (undef), sel (l_ 9) (.string ((⟨#[0]⟩ : ByteArray) ++ bi ++ bs)) (undef), sel (l_ 10) (.pointer (some ⟨w.heap.size, 3, none⟩)) (undef), sel (l_ 11) (.agg #[.int .u64 l.f3.f0, .int .u64 l.f3.f1]) (undef), sel (l_ 12) (.string bb) (undef), sel (l_ 13) (.string ((⟨#[0]⟩ : ByteArray) ++ bi ++ bs ++ bb)) (undef)], defers := [] } : Act) ∧ (LtS w W l ∧ (l_ 0 = true → W.heap[γ]? = some (.cells #[.int .u8 0] 5 (0, 0))))) 15 rfl rfl (by kernel_rfl) ?h0 ?hend ?hstep
   case h0 => exact ⟨0, rfl, HS.out.below (below_drew (Below.refl _ _)), fun h => by cases h⟩
   case hstep =>
    refine rg_cons (rg_cons (rg_cons (rg_cons (rg_cons (rg_cons (rg_cons (rg_cons (rg_cons (rg_cons (rg_cons (rg_cons (rg_cons (rg_cons (rg_cons (rg_nil) ?s0) ?s1) ?s2) ?s3) ?s4) ?s5) ?s6) ?s7) ?s8) ?s9) ?s10) ?s11) ?s12) ?s13) ?s14
    case s0 =>
     refine rg_step rfl ?_
     rintro l_ a W ⟨γ, rfl, hI⟩ hl hd
     clear hd
     refine rg_val (v := .slice (some ⟨W.heap.size, 0, none⟩) 1 1) (w' := W.alloc (.cells #[.int .u8 0] 5)) rfl (by go_simp) ?_
     refine ⟨W.heap.size, ?_, ?_⟩
     ·
      simp only [Act.put, List.setIfInBounds_toArray, List.set_cons_zero, List.set_cons_succ]; rfl
     ·
      exact ⟨hI.1.below (below_alloc (Below.refl _ _) _), fun _ => blk_new W _⟩
    case s1 =>
     refine rg_step rfl ?_
     rintro l_ a W ⟨γ, rfl, hI⟩ hl hd
     have d0 := hd 0 (by decide)
     clear hd
     have y0 := blk_cell (hI.2 d0) 0
     simp at y0
     refine rg_val (v := .string (⟨#[0]⟩ : ByteArray)) (w' := W) rfl ?_ ?_
     ·
      have hcv := run_convert_bytes_arg (P := Tryz.prog) (w := W) 96 5 Tryz.underlying96 Tryz.underlying5 γ 0 1 1 [0] rfl (fun i hi => by obtain rfl : i = 0 := (by omega); exact y0) 9 Tryz.underlying9
      rw [show strOfNums [0] = (⟨#[0]⟩ : ByteArray) from rfl] at hcv
      go_simp
     refine ⟨γ, ?_, ?_⟩
     ·
      simp only [Act.put, List.setIfInBounds_toArray, List.set_cons_zero, List.set_cons_succ]; rfl
     ·
      exact hI
    case s2 =>
     refine rg_step rfl ?_
     rintro l_ a W ⟨γ, rfl, hI⟩ hl hd
     clear hd
     refine rg_val (v := .pointer (some ⟨w.heap.size, 1, none⟩)) (w' := W) rfl (by go_simp) ?_
     refine ⟨γ, ?_, ?_⟩
     ·
      simp only [Act.put, List.setIfInBounds_toArray, List.set_cons_zero, List.set_cons_succ]; rfl
     ·
      exact hI
    case s3 =>
     refine rg_step rfl ?_
     rintro l_ a W ⟨γ, rfl, hI⟩ hl hd
     have d2 := hd 2 (by decide)
     clear hd
     have x1 := blk_cell (hI.1.h0) 1
     simp at x1
     refine rg_val (v := .string l.f1) (w' := W) rfl (by go_simp) ?_
     refine ⟨γ, ?_, ?_⟩
     ·
      simp only [Act.put, List.setIfInBounds_toArray, List.set_cons_zero, List.set_cons_succ]; rfl
     ·
      exact hI
    case s4 =>
     refine rg_step rfl ?_
     rintro l_ a W ⟨γ, rfl, hI⟩ hl hd
     have d3 := hd 3 (by decide)
     clear hd
     refine rg_call rfl (by go_simp; exact ⟨rfl, rfl⟩) ?_
     refine (tag_sized.calls _ _ _ HFi.out).mono ?_
     rintro x W' ⟨rfl, hb⟩
     refine ⟨_, rfl, γ, ?_, ?_⟩
     ·
      simp only [Act.put, List.setIfInBounds_toArray, List.set_cons_zero, List.set_cons_succ]; rfl
     ·
      exact ⟨hI.1.below hb, fun h => blk_below (hI.2 h) hb⟩
    case s5 =>
     refine rg_step rfl ?_
     rintro l_ a W ⟨γ, rfl, hI⟩ hl hd
     have d1 := hd 1 (by decide)
     have d4 := hd 4 (by decide)
     clear hd
     refine rg_val (v := .string ((⟨#[0]⟩ : ByteArray) ++ bi)) (w' := W) rfl (by go_simp; have := HBl.out; have := HBr.out; have := HBb.out; omega) ?_
     refine ⟨γ, ?_, ?_⟩
     ·
      simp only [Act.put, List.setIfInBounds_toArray, List.set_cons_zero, List.set_cons_succ]; rfl
     ·
      exact hI
    case s6 =>
     refine rg_step rfl ?_
     rintro l_ a W ⟨γ, rfl, hI⟩ hl hd
     clear hd
     refine rg_val (v := .pointer (some ⟨w.heap.size, 2, none⟩)) (w' := W) rfl (by go_simp) ?_
     refine ⟨γ, ?_, ?_⟩
     ·
      simp only [Act.put, List.setIfInBounds_toArray, List.set_cons_zero, List.set_cons_succ]; rfl
     ·
      exact hI
    case s7 =>
     refine rg_step rfl ?_
     rintro l_ a W ⟨γ, rfl, hI⟩ hl hd
     have d6 := hd 6 (by decide)
     clear hd
     have x2 := blk_cell (hI.1.h0) 2
     simp at x2
     refine rg_val (v := .string l.f2) (w' := W) rfl (by go_simp) ?_
     refine ⟨γ, ?_, ?_⟩
     ·
      simp only [Act.put, List.setIfInBounds_toArray, List.set_cons_zero, List.set_cons_succ]; rfl
     ·
      exact hI
    case s8 =>
     refine rg_step rfl ?_
     rintro l_ a W ⟨γ, rfl, hI⟩ hl hd
     have d7 := hd 7 (by decide)
     clear hd
     refine rg_call rfl (by go_simp; exact ⟨rfl, rfl⟩) ?_
     refine (tag_sized.calls _ _ _ HFs.out).mono ?_
     rintro x W' ⟨rfl, hb⟩
     refine ⟨_, rfl, γ, ?_, ?_⟩
     ·
      simp only [Act.put, List.setIfInBounds_toArray, List.set_cons_zero, List.set_cons_succ]; rfl
     ·
      exact ⟨hI.1.below hb, fun h => blk_below (hI.2 h) hb⟩
    case s9 =>
     refine rg_step rfl ?_
     rintro l_ a W ⟨γ, rfl, hI⟩ hl hd
     have d5 := hd 5 (by decide)
     have d8 := hd 8 (by decide)
     clear hd
     refine rg_val (v := .string ((⟨#[0]⟩ : ByteArray) ++ bi ++ bs)) (w' := W) rfl (by go_simp; have := HBl.out; have := HBr.out; have := HBb.out; omega) ?_
     refine ⟨γ, ?_, ?_⟩
     ·
      simp only [Act.put, List.setIfInBounds_toArray, List.set_cons_zero, List.set_cons_succ]; rfl
     ·
      exact hI
    case s10 =>
     refine rg_step rfl ?_
     rintro l_ a W ⟨γ, rfl, hI⟩ hl hd
     clear hd
     refine rg_val (v := .pointer (some ⟨w.heap.size, 3, none⟩)) (w' := W) rfl (by go_simp) ?_
     refine ⟨γ, ?_, ?_⟩
     ·
      simp only [Act.put, List.setIfInBounds_toArray, List.set_cons_zero, List.set_cons_succ]; rfl
     ·
      exact hI
    case s11 =>
     refine rg_step rfl ?_
     rintro l_ a W ⟨γ, rfl, hI⟩ hl hd
     have d10 := hd 10 (by decide)
     clear hd
     have x3 := blk_cell (hI.1.h0) 3
     have x4 := blk_cell (hI.1.h0) 4
     simp at x3 x4
     refine rg_val (v := .agg #[.int .u64 l.f3.f0, .int .u64 l.f3.f1]) (w' := W) rfl (by go_simp) ?_
     refine ⟨γ, ?_, ?_⟩
     ·
      simp only [Act.put, List.setIfInBounds_toArray, List.set_cons_zero, List.set_cons_succ]; rfl
     ·
      exact hI
    case s12 =>
     refine rg_step rfl ?_
     rintro l_ a W ⟨γ, rfl, hI⟩ hl hd
     have d11 := hd 11 (by decide)
     clear hd
     refine rg_call rfl (by go_simp; exact ⟨rfl, rfl⟩) ?_
     refine (u128_Bytes.calls _ _ _ _ HFb.out).mono ?_
     rintro x W' ⟨rfl, hb⟩
     refine ⟨_, rfl, γ, ?_, ?_⟩
     ·
      simp only [Act.put, List.setIfInBounds_toArray, List.set_cons_zero, List.set_cons_succ]; rfl
     ·
      exact ⟨hI.1.below hb, fun h => blk_below (hI.2 h) hb⟩
    case s13 =>
     refine rg_step rfl ?_
     rintro l_ a W ⟨γ, rfl, hI⟩ hl hd
     have d9 := hd 9 (by decide)
     have d12 := hd 12 (by decide)
     clear hd
     refine rg_val (v := .string ((⟨#[0]⟩ : ByteArray) ++ bi ++ bs ++ bb)) (w' := W) rfl (by go_simp; have := HBl.out; have := HBr.out; have := HBb.out; omega) ?_
     refine ⟨γ, ?_, ?_⟩
     ·
      simp only [Act.put, List.setIfInBounds_toArray, List.set_cons_zero, List.set_cons_succ]; rfl
     ·
      exact hI
    case s14 =>
     refine rg_step rfl ?_
     rintro l_ a W ⟨γ, rfl, hI⟩ hl hd
     have d13 := hd 13 (by decide)
     clear hd
     refine rg_val (v := .string ((⟨#[0]⟩ : ByteArray) ++ bi ++ bs ++ bb)) (w' := W) rfl (by go_simp) ?_
     refine ⟨γ, ?_, ?_⟩
     ·
      simp only [Act.put, List.setIfInBounds_toArray, List.set_cons_zero, List.set_cons_succ]; rfl
     ·
      exact hI
   case hend =>
    rintro l_ a W ⟨γ, rfl, hI⟩ hall
    have e0 := hall 0 (by decide)
    have e1 := hall 1 (by decide)
    have e2 := hall 2 (by decide)
    have e3 := hall 3 (by decide)
    have e4 := hall 4 (by decide)
    have e5 := hall 5 (by decide)
    have e6 := hall 6 (by decide)
    have e7 := hall 7 (by decide)
    have e8 := hall 8 (by decide)
    have e9 := hall 9 (by decide)
    have e10 := hall 10 (by decide)
    have e11 := hall 11 (by decide)
    have e12 := hall 12 (by decide)
    have e13 := hall 13 (by decide)
    have e14 := hall 14 (by decide)
    clear hall
    simp only [e0, e1, e2, e3, e4, e5, e6, e7, e8, e9, e10, e11, e12, e13, e14, sel_true]
    clear e0 e1 e2 e3 e4 e5 e6 e7 e8 e9 e10 e11 e12 e13 e14
    have HI := aM' hI.1
    clear hI
    go_wp2
    go_ret
    exact ⟨by rw [HT3.out]; rfl, HI.out.hB⟩
def tag_LeafText.f (a0 : Bool) (a1 a2 : ByteArray) (a3 a4 : Int) : Option ByteArray := if a1.size ≤ 1000000 ∧ a2.size ≤ 1000000 then some (leafTextI ⟨a0, a1, a2, ⟨a3, a4⟩⟩) else none
theorem tag_LeafText.calls (a0 : Bool) (a1 a2 : ByteArray) (a3 a4 : Int) (r : ByteArray) (w : World) (hK : LaidT w) (h : tag_LeafText.f a0 a1 a2 a3 a4 = some r) :
  Calls Tryz.prog 56 #[.agg #[.bool a0, .string a1, .string a2, .int .u64 a3, .int .u64 a4]] w fun e w' => e = .returned (.string r) ∧ Below w.heap.size w w' := by
 unfold tag_LeafText.f at h
 split at h
 ·
  rename_i hh
  obtain rfl := Option.some.inj h
  exact leafText.calls ⟨a0, a1, a2, ⟨a3, a4⟩⟩ hh.1 hh.2 w hK
 ·
  cases h
end Go.Proofs.YtlmmpncdemblbaaGreatDoor.P
namespace Go.Proofs.YtlmmpncdemblbaaGreatDoor.P
open Go.RowKit Go.Proofs.YtlmmpncdemblbaaGreatDoorW.PrintWords Go.Proofs.YtlmmpncdemblbaaGreatDoorW.PrintLast Go.Proofs.YtlmmpncdemblbaaGreatDoorW.PrintMore
attribute [local go_sem] max2_int min2_int max_two min_two max_three min_three max_four min_four-- for this text's walks alone
set_option linter.unusedVariables false
set_option linter.unusedSimpArgs false
def tag_LeafNode.j0 : Nat → Int → Bool → Bool → ByteArray → ByteArray → Int → Int → Option (ByteArray × Int × Int)
 | 0, _, _, _, _, _, _, _ => none
 | k + 1, x0, x12, x122000, x122001, x122002, x122003, x122004 => if x12 = true then (some ((⟨#[]⟩ : ByteArray), 0, 0)) else ((tag_LeafText.f x122000 x122001 x122002 x122003 x122004).bind fun t125 => ((tag_Digest.f x0 t125).bind fun t126 => (some (t126, x122003, x122004))))
def tag_LeafNode.f (k : Nat) (a0 : Int) (a1_0 : Bool) (a1_1 : ByteArray) (a1_2 : ByteArray) (a1_3 : Int) (a1_4 : Int) : Option (ByteArray × Int × Int) := (tag_MayWidth.f a0).bind fun t123 => (if t123 = true then ((tag_MayLeaf.f a1_0 a1_1 a1_2 a1_3 a1_4).bind fun t124 => (tag_LeafNode.j0 k a0 (!t124) a1_0 a1_1 a1_2 a1_3 a1_4)) else (tag_LeafNode.j0 k a0 true a1_0 a1_1 a1_2 a1_3 a1_4))
def tag_LeafNode.T3 : Bool × List (List Nat × List Nat) := (true, [([], []), ([], []), ([1], [1]), ([0, 2, 2], [0, 2]), ([], []), ([4], [4]), ([3, 5], [3, 5]), ([6, 3, 0, 1, 2, 3, 4, 5, 6], [6])])
def tag_LeafNode.B3 : List Nat := [0, 0, 2, 7, 0, 16, 63, 127]
theorem tag_LeafNode.tab3 : rtab .any (opsOf Tryz.f36 3) = tag_LeafNode.T3 := by kernel_rfl
theorem tag_LeafNode.bits3 : waitsOk tag_LeafNode.T3.2 tag_LeafNode.B3 = true := by kernel_rfl
set_option maxHeartbeats 8000000 in
set_option maxRecDepth 100000 in
theorem tag_LeafNode.calls (k : Nat) (a0 : Int) (a1_0 : Bool) (a1_1 : ByteArray) (a1_2 : ByteArray) (a1_3 : Int) (a1_4 : Int) (r1 : ByteArray) (r2 : Int) (r3 : Int) (w : World) (hK : LaidT w) (h : tag_LeafNode.f k a0 a1_0 a1_1 a1_2 a1_3 a1_4 = some (r1, r2, r3)) :
  Calls Tryz.prog 36 #[.int .i64 a0, .agg #[.bool a1_0, .string a1_1, .string a1_2, .int .u64 a1_3, .int .u64 a1_4]] w fun e w' => e = .returned (.agg #[.string r1, .int .u64 r2, .int .u64 r3]) ∧ Below w.heap.size w w' := by
 have hu34 := Tryz.underlying34
 have hu67 := Tryz.underlying67
 have hu24 := Tryz.underlying24
 have HB := aM' (Below.refl w.heap.size w)
 have HLD := aM' hK
 clear hK
 have H : ((tag_MayWidth.f a0).bind fun t123 => (if t123 = true then ((tag_MayLeaf.f a1_0 a1_1 a1_2 a1_3 a1_4).bind fun t124 => (tag_LeafNode.j0 k a0 (!t124) a1_0 a1_1 a1_2 a1_3 a1_4)) else (tag_LeafNode.j0 k a0 true a1_0 a1_1 a1_2 a1_3 a1_4))) = some (r1, r2, r3) := h
 clear h
 have HC3 := aM' H
 clear H
 go_enter Tryz.func36, Tryz.ntmps36
 go_upto_region 1 with (first | ((with_reducible refine gate_dst (N := 3) rfl ?_); refine box_event ?hg (N := 3) ?hd (cs := #[.bool a1_0, .string a1_1, .string a1_2, .int .u64 a1_3, .int .u64 a1_4]) (t := 34) ?hr ?_; (case hd => rfl); (case hg => rfl); (case hr => first | (go_simp; done) | (go_simp; rfl)); intro gb121 hg w4 hbox hb; have n0_ := aM' (below_step (by repeat (first | (with_reducible first | exact HB.out | apply below_alloc | apply pw_below_drewN | apply below_drew1) | exact HB.out)) hb); have n1_ := aM' (hbox); have n2_ := aM' ((by rw [hg]; exact (below_size (by repeat (first | (with_reducible first | exact HB.out | apply below_alloc | apply pw_below_drewN | apply below_drew1) | exact HB.out))) : w.heap.size ≤ gb121)); have n3_ := aM' ((by rw [hg]; exact (below_size (by repeat (first | (with_reducible first | exact HB.out | apply below_alloc | apply pw_below_drewN | apply below_drew1) | exact HB.out))) : w.heap.size ≤ gb121)); clear HB; have HB := n0_; have BK121 := n1_; have GW121 := n2_; have GE121 := n3_; clear n0_ n1_ n2_ n3_; clear hb hbox hg) | ((with_reducible refine gate_dst (N := 4) rfl ?_); refine box_event ?hg (N := 4) ?hd (cs := #[.string (⟨#[]⟩ : ByteArray), .int .u64 0, .int .u64 0]) (t := 67) ?hr ?_; (case hd => rfl); (case hg => rfl); (case hr => first | (go_simp; done) | (go_simp; rfl)); intro gb122 hg w5 hbox hb; have n0_ := aM' (blk_below (g := gb121) (o := .cells #[.bool a1_0, .string a1_1, .string a1_2, .int .u64 a1_3, .int .u64 a1_4] 34 (0, 0)) (by (with_reducible repeat (first | refine blk_drewN ?_ _ | refine blk_drew ?_ | refine blk_alloc ?_ _)); exact BK121.out) hb); have n1_ := aM' (below_step (by repeat (first | (with_reducible first | exact HB.out | apply below_alloc | apply pw_below_drewN | apply below_drew1 | refine below_set ?_ GE121.out) | exact HB.out)) hb); have n2_ := aM' (hbox); have n3_ := aM' ((by rw [hg]; exact (below_size (by repeat (first | (with_reducible first | exact HB.out | apply below_alloc | apply pw_below_drewN | apply below_drew1 | refine below_set ?_ GE121.out) | exact HB.out))) : w.heap.size ≤ gb122)); have n4_ := aM' ((by rw [hg]; exact (below_size (by repeat (first | (with_reducible first | exact HB.out | apply below_alloc | apply pw_below_drewN | apply below_drew1 | refine below_set ?_ GE121.out) | exact HB.out))) : w.heap.size ≤ gb122)); have n5_ := aM' ((by rw [hg]; exact Nat.ne_of_lt (blk_lt (g := gb121) (o := .cells #[.bool a1_0, .string a1_1, .string a1_2, .int .u64 a1_3, .int .u64 a1_4] 34 (0, 0)) (by (with_reducible repeat (first | refine blk_drewN ?_ _ | refine blk_drew ?_ | refine blk_alloc ?_ _)); exact BK121.out)) : gb121 ≠ gb122)); have n6_ := aM' ((by rw [hg]; exact Nat.ne_of_gt (blk_lt (g := gb121) (o := .cells #[.bool a1_0, .string a1_1, .string a1_2, .int .u64 a1_3, .int .u64 a1_4] 34 (0, 0)) (by (with_reducible repeat (first | refine blk_drewN ?_ _ | refine blk_drew ?_ | refine blk_alloc ?_ _)); exact BK121.out)) : gb122 ≠ gb121)); clear BK121; clear HB; have BK121 := n0_; have HB := n1_; have BK122 := n2_; have GW122 := n3_; have GE122 := n4_; have NB121_122 := n5_; have NB122_121 := n6_; clear n0_ n1_ n2_ n3_ n4_ n5_ n6_; clear hb hbox hg))
 (try simp only [Act.put, List.setIfInBounds_toArray, List.set_cons_zero, List.set_cons_succ])
 go_cut [12] (fun v12 wc => ∃ (kq : Nat) (x12_2 : Bool), v12 = .bool x12_2 ∧ Aside0 (tag_LeafNode.j0 kq a0 x12_2 a1_0 a1_1 a1_2 a1_3 a1_4 = some (r1, r2, r3)) ∧ Aside0 (kq ≤ k) ∧ Aside0 (wc.heap[gb121]? = some (.cells #[.bool a1_0, .string a1_1, .string a1_2, .int .u64 a1_3, .int .u64 a1_4] 34 (0, 0))) ∧ Aside0 (wc.heap[gb122]? = some (.cells #[.string (⟨#[]⟩ : ByteArray), .int .u64 0, .int .u64 0] 67 (0, 0))) ∧ Aside0 (Below w.heap.size w wc))
 case first =>
  have H := HC3.out
  clear HC3
  replace H := Option.bind_eq_some_iff.mp H
  obtain ⟨t123, A60, H⟩ := H
  replace H : (if t123 = true then ((tag_MayLeaf.f a1_0 a1_1 a1_2 a1_3 a1_4).bind fun t124 => (tag_LeafNode.j0 k a0 (!t124) a1_0 a1_1 a1_2 a1_3 a1_4)) else (tag_LeafNode.j0 k a0 true a1_0 a1_1 a1_2 a1_3 a1_4)) = some (r1, r2, r3) := H
  have A6 := aM' A60
  clear A60
  by_cases c7 : t123 = true
  ·
   subst c7
   have H1 : ((tag_MayLeaf.f a1_0 a1_1 a1_2 a1_3 a1_4).bind fun t124 => (tag_LeafNode.j0 k a0 (!t124) a1_0 a1_1 a1_2 a1_3 a1_4)) = some (r1, r2, r3) := by rw [if_pos rfl] at H; exact H
   clear H
   have H := H1
   clear H1
   replace H := Option.bind_eq_some_iff.mp H
   obtain ⟨t124, A80, H⟩ := H
   replace H : (tag_LeafNode.j0 k a0 (!t124) a1_0 a1_1 a1_2 a1_3 a1_4) = some (r1, r2, r3) := H
   have A8 := aM' A80
   clear A80
   have H' := aM' H
   clear H
   go_wp2_with (first | ((with_reducible refine gate_callee (f := 54) rfl ?_); refine goesL_ (some 6) rfl rfl Tryz.func54 (by kernel_rfl) rfl #[.int .i64 a0] rfl (by (try simp only [List.map_toArray, List.map_cons, List.map_nil]); first | done | rfl | (simp only [List.length_drop, List.length_take]; rfl)) ?_; (with_reducible refine (tag_MayWidth.calls a0 true _ A6.out).mono ?_); rintro e w' ⟨rfl, ⟨nd, rfl⟩⟩; refine ⟨_, rfl, ?_⟩; have hnb9 := NB121_122.out; have hnc9 := NB122_121.out; have hcz10_0 : w5.cell? ⟨gb121, 0, none⟩ = some (.bool a1_0) := (blk_cell BK121.out 0).trans rfl; have hcz10_1 : w5.cell? ⟨gb121, 1, none⟩ = some (.string a1_1) := (blk_cell BK121.out 1).trans rfl; have hcz10_2 : w5.cell? ⟨gb121, 2, none⟩ = some (.string a1_2) := (blk_cell BK121.out 2).trans rfl; have hcz10_3 : w5.cell? ⟨gb121, 3, none⟩ = some (.int .u64 a1_3) := (blk_cell BK121.out 3).trans rfl; have hcz10_4 : w5.cell? ⟨gb121, 4, none⟩ = some (.int .u64 a1_4) := (blk_cell BK121.out 4).trans rfl; have hfz10_0 := blk_frozen BK121.out 0; have hfz10_1 := blk_frozen BK121.out 1; have hfz10_2 := blk_frozen BK121.out 2; have hfz10_3 := blk_frozen BK121.out 3; have hfz10_4 := blk_frozen BK121.out 4) | (go_at_call 33; (with_reducible refine (tag_MayLeaf.calls a1_0 a1_1 a1_2 a1_3 a1_4 t124 _ ?side1 A8.out).mono ?_); (case side1 => exact LaidT.below HLD.out (by repeat (first | (with_reducible first | exact HB.out | apply below_alloc | apply pw_below_drewN | apply below_drew1 | refine below_set ?_ GE121.out | refine below_set ?_ GE122.out) | exact HB.out))); rintro e w11 ⟨rfl, hb⟩; have n0_ := aM' (blk_below (g := gb121) (o := .cells #[.bool a1_0, .string a1_1, .string a1_2, .int .u64 a1_3, .int .u64 a1_4] 34 (0, 0)) (by (with_reducible repeat (first | refine blk_drewN ?_ _ | refine blk_drew ?_ | refine blk_alloc ?_ _)); exact BK121.out) hb); have n1_ := aM' (blk_below (g := gb122) (o := .cells #[.string (⟨#[]⟩ : ByteArray), .int .u64 0, .int .u64 0] 67 (0, 0)) (by (with_reducible repeat (first | refine blk_drewN ?_ _ | refine blk_drew ?_ | refine blk_alloc ?_ _)); exact BK122.out) hb); have n2_ := aM' (below_step (by repeat (first | (with_reducible first | exact HB.out | apply below_alloc | apply pw_below_drewN | apply below_drew1 | refine below_set ?_ GE121.out | refine below_set ?_ GE122.out) | exact HB.out)) hb); clear BK121; clear BK122; clear HB; have BK121 := n0_; have BK122 := n1_; have HB := n2_; clear n0_ n1_ n2_; (try clear hb); (try clear hb2); (try clear hk); (try clear hi)))
   go_meet
   case rel => exact ⟨_, (!t124), (by first | rfl | (simp; done) | (simp [*]; done)), H', ⟨by first | omega | exact Nat.le_refl _⟩, ⟨by (with_reducible repeat (first | refine blk_drewN ?_ _ | refine blk_drew ?_ | refine blk_alloc ?_ _)); exact BK121.out⟩, ⟨by (with_reducible repeat (first | refine blk_drewN ?_ _ | refine blk_drew ?_ | refine blk_alloc ?_ _)); exact BK122.out⟩, ⟨by repeat (first | (with_reducible first | exact HB.out | apply below_alloc | apply pw_below_drewN | apply below_drew1 | refine below_set ?_ GE121.out | refine below_set ?_ GE122.out) | exact HB.out)⟩⟩
  ·
   replace c7 := Bool.eq_false_iff.mpr c7
   subst c7
   have H1 : (tag_LeafNode.j0 k a0 true a1_0 a1_1 a1_2 a1_3 a1_4) = some (r1, r2, r3) := by rw [if_neg (show ¬ (false = true) by decide)] at H; exact H
   clear H
   have H := H1
   clear H1
   have H' := aM' H
   clear H
   go_wp2_with (first | ((with_reducible refine gate_callee (f := 54) rfl ?_); refine goesL_ (some 6) rfl rfl Tryz.func54 (by kernel_rfl) rfl #[.int .i64 a0] rfl (by (try simp only [List.map_toArray, List.map_cons, List.map_nil]); first | done | rfl | (simp only [List.length_drop, List.length_take]; rfl)) ?_; (with_reducible refine (tag_MayWidth.calls a0 false _ A6.out).mono ?_); rintro e w' ⟨rfl, ⟨nd, rfl⟩⟩; refine ⟨_, rfl, ?_⟩))
   go_meet
   case rel => exact ⟨_, (true), (by first | rfl | (simp; done) | (simp [*]; done)), H', ⟨by first | omega | exact Nat.le_refl _⟩, ⟨by (with_reducible repeat (first | refine blk_drewN ?_ _ | refine blk_drew ?_ | refine blk_alloc ?_ _)); exact BK121.out⟩, ⟨by (with_reducible repeat (first | refine blk_drewN ?_ _ | refine blk_drew ?_ | refine blk_alloc ?_ _)); exact BK122.out⟩, ⟨by repeat (first | (with_reducible first | exact HB.out | apply below_alloc | apply pw_below_drewN | apply below_drew1 | refine below_set ?_ GE121.out | refine below_set ?_ GE122.out) | exact HB.out)⟩⟩
 case rest =>
  clear HC3
  try clear p2
  try clear c3
  try clear c5
  try clear c7
  try clear c9
  try clear hcz10_0
  try clear hcz10_1
  try clear hcz10_2
  try clear hcz10_3
  try clear hcz10_4
  try clear hfz10_0
  try clear hfz10_1
  try clear hfz10_2
  try clear hfz10_3
  try clear hfz10_4
  obtain ⟨kq, x12_2, rfl, HA, HJ2, BK121, BK122, HB⟩ := hcut
  cases kq with
  | zero => exact absurd HA.out (by simp [tag_LeafNode.j0])
  | succ kj2 =>
   have H := HA.out
   clear HA
   simp only [tag_LeafNode.j0] at H
   by_cases c12 : x12_2 = true
   ·
    subst c12
    have H1 : (some ((⟨#[]⟩ : ByteArray), 0, 0)) = some (r1, r2, r3) := by rw [if_pos rfl] at H; exact H
    clear H
    have H := H1
    clear H1
    simp only [Option.some.injEq, Prod.mk.injEq] at H
    obtain ⟨rfl, rfl, rfl⟩ := H
    have hnb13 := NB122_121.out
    have hnc13 := NB121_122.out
    have hcz14_0 : wc.cell? ⟨gb122, 0, none⟩ = some (.string (⟨#[]⟩ : ByteArray)) := (blk_cell BK122.out 0).trans rfl
    have hcz14_1 : wc.cell? ⟨gb122, 1, none⟩ = some (.int .u64 0) := (blk_cell BK122.out 1).trans rfl
    have hcz14_2 : wc.cell? ⟨gb122, 2, none⟩ = some (.int .u64 0) := (blk_cell BK122.out 2).trans rfl
    have hfz14_0 := blk_frozen BK122.out 0
    have hfz14_1 := blk_frozen BK122.out 1
    have hfz14_2 := blk_frozen BK122.out 2
    go_wp2
    refine bodyPost_ret (results_cell_row rfl _ _ gb122 67 #[.string (⟨#[]⟩ : ByteArray), .int .u64 0, .int .u64 0] (0, 0) _ rfl (by (with_reducible repeat (first | refine blk_drewN ?_ _ | refine blk_drew ?_ | refine blk_alloc ?_ _)); refine blk_put (cs := #[.string (⟨#[]⟩ : ByteArray), .int .u64 0, .int .u64 0]) ?_ 2 _ rfl; (with_reducible repeat (first | refine blk_drewN ?_ _ | refine blk_drew ?_ | refine blk_alloc ?_ _)); refine blk_put (cs := #[.string (⟨#[]⟩ : ByteArray), .int .u64 0, .int .u64 0]) ?_ 1 _ rfl; (with_reducible repeat (first | refine blk_drewN ?_ _ | refine blk_drew ?_ | refine blk_alloc ?_ _)); refine blk_put (cs := #[.string (⟨#[]⟩ : ByteArray), .int .u64 0, .int .u64 0]) ?_ 0 _ rfl; (with_reducible repeat (first | refine blk_drewN ?_ _ | refine blk_drew ?_ | refine blk_alloc ?_ _)); exact BK122.out) Tryz.underlying67 rfl (by kernel_rfl)) rfl ?_
    exact ⟨by first | rfl | (simp [errW_none, errW_some] <;> rfl) | (simp [*, errW_none, errW_some] <;> rfl), by repeat (first | (with_reducible first | exact HB.out | apply below_alloc | apply pw_below_drewN | apply below_drew1 | refine below_set ?_ GE121.out | refine below_set ?_ GE122.out) | exact HB.out)⟩
   ·
    replace c12 := Bool.eq_false_iff.mpr c12
    subst c12
    have H1 : ((tag_LeafText.f a1_0 a1_1 a1_2 a1_3 a1_4).bind fun t125 => ((tag_Digest.f a0 t125).bind fun t126 => (some (t126, a1_3, a1_4)))) = some (r1, r2, r3) := by rw [if_neg (show ¬ (false = true) by decide)] at H; exact H
    clear H
    have H := H1
    clear H1
    replace H := Option.bind_eq_some_iff.mp H
    obtain ⟨t125, A150, H⟩ := H
    replace H : ((tag_Digest.f a0 t125).bind fun t126 => (some (t126, a1_3, a1_4))) = some (r1, r2, r3) := H
    have A15 := aM' A150
    clear A150
    replace H := Option.bind_eq_some_iff.mp H
    obtain ⟨t126, A160, H⟩ := H
    replace H : (some (t126, a1_3, a1_4)) = some (r1, r2, r3) := H
    have A16 := aM' A160
    clear A160
    simp only [Option.some.injEq, Prod.mk.injEq] at H
    obtain ⟨rfl, rfl, rfl⟩ := H
    try go_wp2
    have n0_ := aM' (blk_drew BK121.out)
    have n1_ := aM' (blk_drew BK122.out)
    have n2_ := aM' (below_drew1 HB.out)
    clear BK121
    clear BK122
    clear HB
    have BK121 := n0_
    have BK122 := n1_
    have HB := n2_
    clear n0_ n1_ n2_
    refine start_ (n := 8) (S := fun w' => w'.cell? ⟨gb121, 0, none⟩ = some (.bool a1_0) ∧ w'.cell? ⟨gb121, 1, none⟩ = some (.string a1_1) ∧ w'.cell? ⟨gb121, 2, none⟩ = some (.string a1_2) ∧ w'.cell? ⟨gb121, 3, none⟩ = some (.int .u64 a1_3) ∧ w'.cell? ⟨gb121, 4, none⟩ = some (.int .u64 a1_4)) (ds := []) #[false, false, false, false, false, false, false, false] (by kernel_rfl) rfl rfl ⟨(blk_cell BK121.out 0).trans rfl, (blk_cell BK121.out 1).trans rfl, (blk_cell BK121.out 2).trans rfl, (blk_cell BK121.out 3).trans rfl, (blk_cell BK121.out 4).trans rfl⟩ (fun hHeld => ?_); refine with_tabW tag_LeafNode.tab3 tag_LeafNode.bits3 (fun HT_ HW_ => ?_)
    generalize wc.drew = w17 at BK121 BK122 HB hHeld ⊢
    refine pure_ (i := 0) (N := some 14) (v := ?_) (a' := ?_) #[true, false, false, false, false, false, false, false] rfl rfl (any_of HT_.out (by kernel_rfl)) (fun _ _ _ h => h) (Or.inl ⟨by rfl, ?_⟩) ?_ ?_
    rotate_left
    ·
     intro w'
     go_simp
     with_reducible rfl
    rotate_left
    ·
     simp only [Act.put, List.setIfInBounds_toArray, List.set_cons_zero, List.set_cons_succ, i64_w, i32_w]
     rfl
    refine pure_ (i := 4) (N := some 18) (v := ?_) (a' := ?_) #[true, false, false, false, true, false, false, false] rfl rfl (any_of HT_.out (by kernel_rfl)) (fun _ _ _ h => h) (Or.inl ⟨by rfl, ?_⟩) ?_ ?_
    rotate_left
    ·
     intro w'
     go_simp
     with_reducible rfl
    rotate_left
    ·
     simp only [Act.put, List.setIfInBounds_toArray, List.set_cons_zero, List.set_cons_succ, i64_w, i32_w]
     rfl
    refine take_ (i := 1) (N := some 15) (v := ?_) (a' := ?_) #[true, true, false, false, true, false, false, false] rfl rfl (take_ofW HT_.out HW_.out (by kernel_rfl)) (fun _ _ _ h => h) (Or.inl ⟨by rfl, ?_⟩) hHeld ?_ ?_
    rotate_left
    ·
     rintro w' ⟨s0, s1, s2, s3, s4⟩
     go_simp
     with_reducible rfl
    rotate_left
    ·
     simp only [Act.put, List.setIfInBounds_toArray, List.set_cons_zero, List.set_cons_succ, i64_w, i32_w]
     rfl
    refine take_ (i := 5) (N := some 19) (v := ?_) (a' := ?_) #[true, true, false, false, true, true, false, false] rfl rfl (take_ofW HT_.out HW_.out (by kernel_rfl)) (fun _ _ _ h => h) (Or.inl ⟨by rfl, ?_⟩) hHeld ?_ ?_
    rotate_left
    ·
     rintro w' ⟨s0, s1, s2, s3, s4⟩
     go_simp
     with_reducible rfl
    rotate_left
    ·
     simp only [Act.put, List.setIfInBounds_toArray, List.set_cons_zero, List.set_cons_succ, i64_w, i32_w]
     rfl
    refine one_ (i := 2) (N := some 16) #[true, true, true, false, true, true, false, false] rfl rfl (one_of HT_.out (by kernel_rfl)) (by decide) (fun K hK => ?_)
    refine goes_ Tryz.func56 (by kernel_rfl) rfl #[.agg #[.bool a1_0, .string a1_1, .string a1_2, .int .u64 a1_3, .int .u64 a1_4]] (by rfl) rfl rfl (by (try simp only [List.map_toArray, List.map_cons, List.map_nil]); first | done | rfl | (simp only [List.length_drop, List.length_take]; rfl)) ?_
    with_reducible refine (tag_LeafText.calls a1_0 a1_1 a1_2 a1_3 a1_4 t125 _ ?side1 A15.out).mono ?_
    (case side1 => exact LaidT.below HLD.out (by repeat (first | (with_reducible first | exact HB.out | apply below_alloc | apply pw_below_drewN | apply below_drew1 | refine below_set ?_ GE121.out | refine below_set ?_ GE122.out) | exact HB.out)))
    rintro e w18 ⟨rfl, hb⟩
    refine ⟨_, rfl, ?_⟩
    have n0_ := aM' (blk_below (g := gb121) (o := .cells #[.bool a1_0, .string a1_1, .string a1_2, .int .u64 a1_3, .int .u64 a1_4] 34 (0, 0)) (by (with_reducible repeat (first | refine blk_drewN ?_ _ | refine blk_drew ?_ | refine blk_alloc ?_ _)); exact BK121.out) hb)
    have n1_ := aM' (blk_below (g := gb122) (o := .cells #[.string (⟨#[]⟩ : ByteArray), .int .u64 0, .int .u64 0] 67 (0, 0)) (by (with_reducible repeat (first | refine blk_drewN ?_ _ | refine blk_drew ?_ | refine blk_alloc ?_ _)); exact BK122.out) hb)
    have n2_ := aM' (below_step (by repeat (first | (with_reducible first | exact HB.out | apply below_alloc | apply pw_below_drewN | apply below_drew1 | refine below_set ?_ GE121.out | refine below_set ?_ GE122.out) | exact HB.out)) hb)
    clear BK121
    clear BK122
    clear HB
    have BK121 := n0_
    have BK122 := n1_
    have HB := n2_
    clear n0_ n1_ n2_
    (try clear hb)
    (try clear hb2)
    (try clear hk)
    (try clear hi)
    refine hK.out _ _ ⟨(blk_cell BK121.out 0).trans rfl, (blk_cell BK121.out 1).trans rfl, (blk_cell BK121.out 2).trans rfl, (blk_cell BK121.out 3).trans rfl, (blk_cell BK121.out 4).trans rfl⟩ (fun hHeld => ?_)
    clear hK K
    refine norm_ (a' := ?_) ?_ ?_
    rotate_left
    ·
     show Act.put _ (some 16) _ = _
     simp only [Act.put, List.setIfInBounds_toArray, List.set_cons_zero, List.set_cons_succ, i64_w, i32_w]
     rfl
    refine one_ (i := 3) (N := some 17) #[true, true, true, true, true, true, false, false] rfl rfl (one_of HT_.out (by kernel_rfl)) (by decide) (fun K hK => ?_)
    refine goes_ Tryz.func55 (by kernel_rfl) rfl #[.int .i64 a0, .string t125] (by rfl) rfl rfl (by (try simp only [List.map_toArray, List.map_cons, List.map_nil]); first | done | rfl | (simp only [List.length_drop, List.length_take]; rfl)) ?_
    with_reducible refine (tag_Digest.calls a0 t125 t126 _ ?side1 A16.out).mono ?_
    (case side1 => exact Laid.below HLD.out.1 (by repeat (first | (with_reducible first | exact HB.out | apply below_alloc | apply pw_below_drewN | apply below_drew1 | refine below_set ?_ GE121.out | refine below_set ?_ GE122.out) | exact HB.out)))
    rintro e w19 ⟨rfl, hb⟩
    refine ⟨_, rfl, ?_⟩
    have n0_ := aM' (blk_below (g := gb121) (o := .cells #[.bool a1_0, .string a1_1, .string a1_2, .int .u64 a1_3, .int .u64 a1_4] 34 (0, 0)) (by (with_reducible repeat (first | refine blk_drewN ?_ _ | refine blk_drew ?_ | refine blk_alloc ?_ _)); exact BK121.out) hb)
    have n1_ := aM' (blk_below (g := gb122) (o := .cells #[.string (⟨#[]⟩ : ByteArray), .int .u64 0, .int .u64 0] 67 (0, 0)) (by (with_reducible repeat (first | refine blk_drewN ?_ _ | refine blk_drew ?_ | refine blk_alloc ?_ _)); exact BK122.out) hb)
    have n2_ := aM' (below_step (by repeat (first | (with_reducible first | exact HB.out | apply below_alloc | apply pw_below_drewN | apply below_drew1 | refine below_set ?_ GE121.out | refine below_set ?_ GE122.out) | exact HB.out)) hb)
    clear BK121
    clear BK122
    clear HB
    have BK121 := n0_
    have BK122 := n1_
    have HB := n2_
    clear n0_ n1_ n2_
    (try clear hb)
    (try clear hb2)
    (try clear hk)
    (try clear hi)
    refine hK.out _ _ ⟨(blk_cell BK121.out 0).trans rfl, (blk_cell BK121.out 1).trans rfl, (blk_cell BK121.out 2).trans rfl, (blk_cell BK121.out 3).trans rfl, (blk_cell BK121.out 4).trans rfl⟩ (fun hHeld => ?_)
    clear hK K
    refine norm_ (a' := ?_) ?_ ?_
    rotate_left
    ·
     show Act.put _ (some 17) _ = _
     simp only [Act.put, List.setIfInBounds_toArray, List.set_cons_zero, List.set_cons_succ, i64_w, i32_w]
     rfl
    refine pure_ (i := 6) (N := some 20) (v := ?_) (a' := ?_) #[true, true, true, true, true, true, true, false] rfl rfl (any_of HT_.out (by kernel_rfl)) (fun _ _ _ h => h) (Or.inl ⟨by rfl, ?_⟩) ?_ ?_
    rotate_left
    ·
     intro w'
     go_simp
     with_reducible rfl
    rotate_left
    ·
     simp only [Act.put, List.setIfInBounds_toArray, List.set_cons_zero, List.set_cons_succ, i64_w, i32_w]
     rfl
    refine one_ (i := 7) (N := none) #[true, true, true, true, true, true, true, true] rfl rfl (one_of HT_.out (by kernel_rfl)) (by decide) (fun K hK => ?_)
    have hs20 : w19.cell? ⟨gb122, 0, none⟩ = some (.string (⟨#[]⟩ : ByteArray)) := (blk_cell BK122.out 0).trans rfl
    have hfs20 := blk_frozen BK122.out 0
    have hns20_0 := NB121_122.out
    have hms20_0 := NB122_121.out
    have hs21 : w19.cell? ⟨gb122, 1, none⟩ = some (.int .u64 0) := (blk_cell BK122.out 1).trans rfl
    have hfs21 := blk_frozen BK122.out 1
    have hns21_0 := NB121_122.out
    have hms21_0 := NB122_121.out
    have hs22 : w19.cell? ⟨gb122, 2, none⟩ = some (.int .u64 0) := (blk_cell BK122.out 2).trans rfl
    have hfs22 := blk_frozen BK122.out 2
    have hns22_0 := NB121_122.out
    have hms22_0 := NB122_121.out
    refine skip_ (w1 := ?_) (by rfl) rfl ?_ ?_
    rotate_left
    ·
     go_simp
     rfl
    refine hK.out _ _ ⟨((cell_far (p := ⟨gb122, _, none⟩) NB121_122.out _).trans (((cell_far (p := ⟨gb122, _, none⟩) NB121_122.out _).trans (((cell_far (p := ⟨gb122, _, none⟩) NB121_122.out _).trans (hHeld.1)))))), ((cell_far (p := ⟨gb122, _, none⟩) NB121_122.out _).trans (((cell_far (p := ⟨gb122, _, none⟩) NB121_122.out _).trans (((cell_far (p := ⟨gb122, _, none⟩) NB121_122.out _).trans (hHeld.2.1)))))), ((cell_far (p := ⟨gb122, _, none⟩) NB121_122.out _).trans (((cell_far (p := ⟨gb122, _, none⟩) NB121_122.out _).trans (((cell_far (p := ⟨gb122, _, none⟩) NB121_122.out _).trans (hHeld.2.2.1)))))), ((cell_far (p := ⟨gb122, _, none⟩) NB121_122.out _).trans (((cell_far (p := ⟨gb122, _, none⟩) NB121_122.out _).trans (((cell_far (p := ⟨gb122, _, none⟩) NB121_122.out _).trans (hHeld.2.2.2.1)))))), ((cell_far (p := ⟨gb122, _, none⟩) NB121_122.out _).trans (((cell_far (p := ⟨gb122, _, none⟩) NB121_122.out _).trans (((cell_far (p := ⟨gb122, _, none⟩) NB121_122.out _).trans (hHeld.2.2.2.2))))))⟩ (fun hHeld => ?_)
    clear hK K
    refine done_ (done_of HT_.out (by kernel_rfl)) ?_
    try go_wp2
    refine bodyPost_ret (results_cell_row rfl _ _ gb122 67 #[.string t126, .int .u64 a1_3, .int .u64 a1_4] (0, 0) _ rfl (by (with_reducible repeat (first | refine blk_drewN ?_ _ | refine blk_drew ?_ | refine blk_alloc ?_ _)); refine blk_put (cs := #[.string t126, .int .u64 a1_3, .int .u64 0]) ?_ 2 _ rfl; (with_reducible repeat (first | refine blk_drewN ?_ _ | refine blk_drew ?_ | refine blk_alloc ?_ _)); refine blk_put (cs := #[.string t126, .int .u64 0, .int .u64 0]) ?_ 1 _ rfl; (with_reducible repeat (first | refine blk_drewN ?_ _ | refine blk_drew ?_ | refine blk_alloc ?_ _)); refine blk_put (cs := #[.string (⟨#[]⟩ : ByteArray), .int .u64 0, .int .u64 0]) ?_ 0 _ rfl; (with_reducible repeat (first | refine blk_drewN ?_ _ | refine blk_drew ?_ | refine blk_alloc ?_ _)); exact BK122.out) Tryz.underlying67 rfl (by kernel_rfl)) rfl ?_
    exact ⟨by first | rfl | (simp [errW_none, errW_some] <;> rfl) | (simp [*, errW_none, errW_some] <;> rfl), by repeat (first | (with_reducible first | exact HB.out | apply below_alloc | apply pw_below_drewN | apply below_drew1 | refine below_set ?_ GE121.out | refine below_set ?_ GE122.out) | exact HB.out)⟩
end Go.Proofs.YtlmmpncdemblbaaGreatDoor.P
namespace Go.Proofs.YtlmmpncdemblbaaGreatDoor.P
open Go.RowKit Go.Proofs.YtlmmpncdemblbaaGreatDoorW.PrintWords Go.Proofs.YtlmmpncdemblbaaGreatDoorW.PrintLast Go.Proofs.YtlmmpncdemblbaaGreatDoorW.PrintMore
set_option linter.unusedVariables false
set_option linter.unusedSimpArgs false
set_option linter.unnecessarySimpa false
attribute [local go_sem] sel_true
def nodeText (l r : SNode) : ByteArray := (⟨#[1]⟩ : ByteArray) ++ l.f0 ++ u128B l.f1.f0 l.f1.f1 ++ r.f0 ++ u128B r.f1.f0 r.f1.f1
theorem nodeText_size (l r : SNode) : (nodeText l r).size = 33 + l.f0.size + r.f0.size := by
 simp only [nodeText, ByteArray.size_append, u128B_size]
 show 1 + _ + _ + _ + _ = _
 omega
structure NtS (w W : World) (l r : SNode) : Prop where
 hB : Below w.heap.size w W
 h0 : W.heap[w.heap.size]? = some (.cells #[.string l.f0, .int .u64 l.f1.f0, .int .u64 l.f1.f1] 67 (0, 0))
 h1 : W.heap[w.heap.size + 1]? = some (.cells #[.string r.f0, .int .u64 r.f1.f0, .int .u64 r.f1.f1] 67 (0, 0))
theorem NtS.below {w W W' : World} {l r : SNode} (h : NtS w W l r) (hb : Below W.heap.size W W') : NtS w W' l r := ⟨h.hB.trans (hb.mono h.hB.size), blk_below h.h0 hb, blk_below h.h1 hb⟩
set_option maxRecDepth 100000 in
set_option maxHeartbeats 2000000 in
theorem nodeText.calls (l r : SNode) (hl : l.f0.size ≤ 1000000) (hr : r.f0.size ≤ 1000000) (w : World) :
  Calls Tryz.prog 71 #[.agg #[.string l.f0, .int .u64 l.f1.f0, .int .u64 l.f1.f1], .agg #[.string r.f0, .int .u64 r.f1.f0, .int .u64 r.f1.f1]] w fun e w' => e = .returned (.string (nodeText l r)) ∧ Below w.heap.size w w' := by
 have HL := aM' hl
 have HR := aM' hr
 have HT := aM' (show nodeText l r = (⟨#[1]⟩ : ByteArray) ++ l.f0 ++ u128B l.f1.f0 l.f1.f1 ++ r.f0 ++ u128B r.f1.f0 r.f1.f1 from rfl)
 have hz1 : ByteArray.size (⟨#[1]⟩ : ByteArray) = 1 := rfl
 have HZ := aM' hz1
 clear hl hr hz1
 obtain ⟨bl, hbl⟩ : ∃ b, b = u128B l.f1.f0 l.f1.f1 := ⟨_, rfl⟩
 obtain ⟨br, hbr⟩ : ∃ b, b = u128B r.f1.f0 r.f1.f1 := ⟨_, rfl⟩
 have HBl := aM' (show bl.size = 16 by rw [hbl, u128B_size])
 have HBr := aM' (show br.size = 16 by rw [hbr, u128B_size])
 have HFl := aM' (show u128_Bytes.f l.f1.f0 l.f1.f1 = some bl by rw [hbl]; exact u128Bytes_eq _ _)
 have HFr := aM' (show u128_Bytes.f r.f1.f0 r.f1.f1 = some br by rw [hbr]; exact u128Bytes_eq _ _)
 rw [← hbl, ← hbr] at HT
 clear hbl hbr
 go_enter Tryz.func71, Tryz.ntmps71
 go_wp2
 have HS := aM' (show NtS w ((w.alloc (.cells #[.string l.f0, .int .u64 l.f1.f0, .int .u64 l.f1.f1] 67)).alloc (.cells #[.string r.f0, .int .u64 r.f1.f0, .int .u64 r.f1.f1] 67)) l r from
  ⟨below_alloc (below_alloc (Below.refl _ _) _) _, blk_alloc (blk_new w _) _, by have := blk_new (w.alloc (.cells #[.string l.f0, .int .u64 l.f1.f0, .int .u64 l.f1.f1] 67)) (.cells #[.string r.f0, .int .u64 r.f1.f0, .int .u64 r.f1.f1] 67); rwa [World.size_alloc] at this⟩)
 refine region_inv (fun l_ a W => ∃ γ : Nat, a = ({ tmps := #[.agg #[.string l.f0, .int .u64 l.f1.f0, .int .u64 l.f1.f1], .agg #[.string r.f0, .int .u64 r.f1.f0, .int .u64 r.f1.f1], .pointer (some ⟨w.heap.size, 0, none⟩), .pointer (some ⟨w.heap.size + 1, 0, none⟩), sel (l_ 16) (.string ((⟨#[1]⟩ : ByteArray) ++ l.f0 ++ bl ++ r.f0 ++ br)) (.string ⟨#[]⟩), sel (l_ 0) (.slice (some ⟨γ, 0, none⟩) 1 1) (undef), sel (l_ 1) (.string (⟨#[1]⟩ : ByteArray)) (undef), sel (l_ 2) (.pointer (some ⟨w.heap.size, 0, none⟩)) (undef), sel (l_ 3) (.string l.f0) (undef), sel (l_ 4) (.string ((⟨#[1]⟩ : ByteArray) ++ l.f0)) (undef), sel (l_ 5) (.pointer (some ⟨w.heap.size, 1, none⟩)) (undef), sel (l_ 6) (.agg #[.int .u64 l.f1.f0, .int .u64 l.f1.f1]) (undef), sel (l_ 7) (.string bl) (undef), sel (l_ 8) (.string ((⟨#[1]⟩ : ByteArray) ++ l.f0 ++ bl)) (undef), sel (l_ 9) (.pointer (some ⟨w.heap.size + 1, 0, none⟩)) (undef), sel (l_ 10) (.string r.f0) (undef), sel (l_ 11) (.string ((⟨#[1]⟩ : ByteArray) ++ l.f0 ++ bl ++ r.f0)) (undef), sel (l_ 12) (.pointer (some ⟨w.heap.size + 1, 1, none⟩)) (undef), sel (l_ 13) (.agg #[.int .u64 r.f1.f0, .int .u64 r.f1.f1]) (undef), sel (l_ 14) (.string br) (undef), sel (l_ 15) (.string ((⟨#[1]⟩ : ByteArray) ++ l.f0 ++ bl ++ r.f0 ++ br)) (undef)], defers := [] } : Act) ∧ (NtS w W l r ∧ (l_ 0 = true → W.heap[γ]? = some (.cells #[.int .u8 1] 5 (0, 0))))) 17 rfl rfl (by kernel_rfl) ?h0 ?hend ?hstep
 case h0 => exact ⟨0, rfl, HS.out.below (below_drew (Below.refl _ _)), fun h => by cases h⟩
 case hstep =>
  refine rg_cons (rg_cons (rg_cons (rg_cons (rg_cons (rg_cons (rg_cons (rg_cons (rg_cons (rg_cons (rg_cons (rg_cons (rg_cons (rg_cons (rg_cons (rg_cons (rg_cons (rg_nil) ?s0) ?s1) ?s2) ?s3) ?s4) ?s5) ?s6) ?s7) ?s8) ?s9) ?s10) ?s11) ?s12) ?s13) ?s14) ?s15) ?s16
  case s0 =>
   refine rg_step rfl ?_
   rintro l_ a W ⟨γ, rfl, hI⟩ hl hd
   clear hd
   refine rg_val (v := .slice (some ⟨W.heap.size, 0, none⟩) 1 1) (w' := W.alloc (.cells #[.int .u8 1] 5)) rfl (by go_simp) ?_
   refine ⟨W.heap.size, ?_, ?_⟩
   ·
    simp only [Act.put, List.setIfInBounds_toArray, List.set_cons_zero, List.set_cons_succ]; rfl
   ·
    exact ⟨hI.1.below (below_alloc (Below.refl _ _) _), fun _ => blk_new W _⟩
  case s1 =>
   refine rg_step rfl ?_
   rintro l_ a W ⟨γ, rfl, hI⟩ hl hd
   have d0 := hd 0 (by decide)
   clear hd
   have y0 := blk_cell (hI.2 d0) 0
   simp at y0
   refine rg_val (v := .string (⟨#[1]⟩ : ByteArray)) (w' := W) rfl ?_ ?_
   ·
    have hcv := run_convert_bytes_arg (P := Tryz.prog) (w := W) 96 5 Tryz.underlying96 Tryz.underlying5 γ 0 1 1 [1] rfl (fun i hi => by obtain rfl : i = 0 := (by omega); exact y0) 9 Tryz.underlying9
    rw [show strOfNums [1] = (⟨#[1]⟩ : ByteArray) from rfl] at hcv
    go_simp
   refine ⟨γ, ?_, ?_⟩
   ·
    simp only [Act.put, List.setIfInBounds_toArray, List.set_cons_zero, List.set_cons_succ]; rfl
   ·
    exact hI
  case s2 =>
   refine rg_step rfl ?_
   rintro l_ a W ⟨γ, rfl, hI⟩ hl hd
   clear hd
   refine rg_val (v := .pointer (some ⟨w.heap.size, 0, none⟩)) (w' := W) rfl (by go_simp) ?_
   refine ⟨γ, ?_, ?_⟩
   ·
    simp only [Act.put, List.setIfInBounds_toArray, List.set_cons_zero, List.set_cons_succ]; rfl
   ·
    exact hI
  case s3 =>
   refine rg_step rfl ?_
   rintro l_ a W ⟨γ, rfl, hI⟩ hl hd
   have d2 := hd 2 (by decide)
   clear hd
   have x0 := blk_cell (hI.1.h0) 0
   simp at x0
   refine rg_val (v := .string l.f0) (w' := W) rfl (by go_simp) ?_
   refine ⟨γ, ?_, ?_⟩
   ·
    simp only [Act.put, List.setIfInBounds_toArray, List.set_cons_zero, List.set_cons_succ]; rfl
   ·
    exact hI
  case s4 =>
   refine rg_step rfl ?_
   rintro l_ a W ⟨γ, rfl, hI⟩ hl hd
   have d1 := hd 1 (by decide)
   have d3 := hd 3 (by decide)
   clear hd
   refine rg_val (v := .string ((⟨#[1]⟩ : ByteArray) ++ l.f0)) (w' := W) rfl (by go_simp; have := HL.out; have := HR.out; have := HBl.out; have := HBr.out; omega) ?_
   refine ⟨γ, ?_, ?_⟩
   ·
    simp only [Act.put, List.setIfInBounds_toArray, List.set_cons_zero, List.set_cons_succ]; rfl
   ·
    exact hI
  case s5 =>
   refine rg_step rfl ?_
   rintro l_ a W ⟨γ, rfl, hI⟩ hl hd
   clear hd
   refine rg_val (v := .pointer (some ⟨w.heap.size, 1, none⟩)) (w' := W) rfl (by go_simp) ?_
   refine ⟨γ, ?_, ?_⟩
   ·
    simp only [Act.put, List.setIfInBounds_toArray, List.set_cons_zero, List.set_cons_succ]; rfl
   ·
    exact hI
  case s6 =>
   refine rg_step rfl ?_
   rintro l_ a W ⟨γ, rfl, hI⟩ hl hd
   have d5 := hd 5 (by decide)
   clear hd
   have x1 := blk_cell (hI.1.h0) 1
   have x2 := blk_cell (hI.1.h0) 2
   simp at x1 x2
   refine rg_val (v := .agg #[.int .u64 l.f1.f0, .int .u64 l.f1.f1]) (w' := W) rfl (by go_simp) ?_
   refine ⟨γ, ?_, ?_⟩
   ·
    simp only [Act.put, List.setIfInBounds_toArray, List.set_cons_zero, List.set_cons_succ]; rfl
   ·
    exact hI
  case s7 =>
   refine rg_step rfl ?_
   rintro l_ a W ⟨γ, rfl, hI⟩ hl hd
   have d6 := hd 6 (by decide)
   clear hd
   refine rg_call rfl (by go_simp; exact ⟨rfl, rfl⟩) ?_
   refine (u128_Bytes.calls _ _ _ _ HFl.out).mono ?_
   rintro x W' ⟨rfl, hb⟩
   refine ⟨_, rfl, γ, ?_, ?_⟩
   ·
    simp only [Act.put, List.setIfInBounds_toArray, List.set_cons_zero, List.set_cons_succ]; rfl
   ·
    exact ⟨hI.1.below hb, fun h => blk_below (hI.2 h) hb⟩
  case s8 =>
   refine rg_step rfl ?_
   rintro l_ a W ⟨γ, rfl, hI⟩ hl hd
   have d4 := hd 4 (by decide)
   have d7 := hd 7 (by decide)
   clear hd
   refine rg_val (v := .string ((⟨#[1]⟩ : ByteArray) ++ l.f0 ++ bl)) (w' := W) rfl (by go_simp; have := HL.out; have := HR.out; have := HBl.out; have := HBr.out; omega) ?_
   refine ⟨γ, ?_, ?_⟩
   ·
    simp only [Act.put, List.setIfInBounds_toArray, List.set_cons_zero, List.set_cons_succ]; rfl
   ·
    exact hI
  case s9 =>
   refine rg_step rfl ?_
   rintro l_ a W ⟨γ, rfl, hI⟩ hl hd
   clear hd
   refine rg_val (v := .pointer (some ⟨w.heap.size + 1, 0, none⟩)) (w' := W) rfl (by go_simp) ?_
   refine ⟨γ, ?_, ?_⟩
   ·
    simp only [Act.put, List.setIfInBounds_toArray, List.set_cons_zero, List.set_cons_succ]; rfl
   ·
    exact hI
  case s10 =>
   refine rg_step rfl ?_
   rintro l_ a W ⟨γ, rfl, hI⟩ hl hd
   have d9 := hd 9 (by decide)
   clear hd
   have x0 := blk_cell (hI.1.h1) 0
   simp at x0
   refine rg_val (v := .string r.f0) (w' := W) rfl (by go_simp) ?_
   refine ⟨γ, ?_, ?_⟩
   ·
    simp only [Act.put, List.setIfInBounds_toArray, List.set_cons_zero, List.set_cons_succ]; rfl
   ·
    exact hI
  case s11 =>
   refine rg_step rfl ?_
   rintro l_ a W ⟨γ, rfl, hI⟩ hl hd
   have d8 := hd 8 (by decide)
   have d10 := hd 10 (by decide)
   clear hd
   refine rg_val (v := .string ((⟨#[1]⟩ : ByteArray) ++ l.f0 ++ bl ++ r.f0)) (w' := W) rfl (by go_simp; have := HL.out; have := HR.out; have := HBl.out; have := HBr.out; omega) ?_
   refine ⟨γ, ?_, ?_⟩
   ·
    simp only [Act.put, List.setIfInBounds_toArray, List.set_cons_zero, List.set_cons_succ]; rfl
   ·
    exact hI
  case s12 =>
   refine rg_step rfl ?_
   rintro l_ a W ⟨γ, rfl, hI⟩ hl hd
   clear hd
   refine rg_val (v := .pointer (some ⟨w.heap.size + 1, 1, none⟩)) (w' := W) rfl (by go_simp) ?_
   refine ⟨γ, ?_, ?_⟩
   ·
    simp only [Act.put, List.setIfInBounds_toArray, List.set_cons_zero, List.set_cons_succ]; rfl
   ·
    exact hI
  case s13 =>
   refine rg_step rfl ?_
   rintro l_ a W ⟨γ, rfl, hI⟩ hl hd
   have d12 := hd 12 (by decide)
   clear hd
   have x1 := blk_cell (hI.1.h1) 1
   have x2 := blk_cell (hI.1.h1) 2
   simp at x1 x2
   refine rg_val (v := .agg #[.int .u64 r.f1.f0, .int .u64 r.f1.f1]) (w' := W) rfl (by go_simp) ?_
   refine ⟨γ, ?_, ?_⟩
   ·
    simp only [Act.put, List.setIfInBounds_toArray, List.set_cons_zero, List.set_cons_succ]; rfl
   ·
    exact hI
  case s14 =>
   refine rg_step rfl ?_
   rintro l_ a W ⟨γ, rfl, hI⟩ hl hd
   have d13 := hd 13 (by decide)
   clear hd
   refine rg_call rfl (by go_simp; exact ⟨rfl, rfl⟩) ?_
   refine (u128_Bytes.calls _ _ _ _ HFr.out).mono ?_
   rintro x W' ⟨rfl, hb⟩
   refine ⟨_, rfl, γ, ?_, ?_⟩
   ·
    simp only [Act.put, List.setIfInBounds_toArray, List.set_cons_zero, List.set_cons_succ]; rfl
   ·
    exact ⟨hI.1.below hb, fun h => blk_below (hI.2 h) hb⟩
  case s15 =>
   refine rg_step rfl ?_
   rintro l_ a W ⟨γ, rfl, hI⟩ hl hd
   have d11 := hd 11 (by decide)
   have d14 := hd 14 (by decide)
   clear hd
   refine rg_val (v := .string ((⟨#[1]⟩ : ByteArray) ++ l.f0 ++ bl ++ r.f0 ++ br)) (w' := W) rfl (by go_simp; have := HL.out; have := HR.out; have := HBl.out; have := HBr.out; omega) ?_
   refine ⟨γ, ?_, ?_⟩
   ·
    simp only [Act.put, List.setIfInBounds_toArray, List.set_cons_zero, List.set_cons_succ]; rfl
   ·
    exact hI
  case s16 =>
   refine rg_step rfl ?_
   rintro l_ a W ⟨γ, rfl, hI⟩ hl hd
   have d15 := hd 15 (by decide)
   clear hd
   refine rg_val (v := .string ((⟨#[1]⟩ : ByteArray) ++ l.f0 ++ bl ++ r.f0 ++ br)) (w' := W) rfl (by go_simp) ?_
   refine ⟨γ, ?_, ?_⟩
   ·
    simp only [Act.put, List.setIfInBounds_toArray, List.set_cons_zero, List.set_cons_succ]; rfl
   ·
    exact hI
 case hend =>
  rintro l_ a W ⟨γ, rfl, hI⟩ hall
  have e0 := hall 0 (by decide)
  have e1 := hall 1 (by decide)
  have e2 := hall 2 (by decide)
  have e3 := hall 3 (by decide)
  have e4 := hall 4 (by decide)
  have e5 := hall 5 (by decide)
  have e6 := hall 6 (by decide)
  have e7 := hall 7 (by decide)
  have e8 := hall 8 (by decide)
  have e9 := hall 9 (by decide)
  have e10 := hall 10 (by decide)
  have e11 := hall 11 (by decide)
  have e12 := hall 12 (by decide)
  have e13 := hall 13 (by decide)
  have e14 := hall 14 (by decide)
  have e15 := hall 15 (by decide)
  have e16 := hall 16 (by decide)
  clear hall
  simp only [e0, e1, e2, e3, e4, e5, e6, e7, e8, e9, e10, e11, e12, e13, e14, e15, e16, sel_true]
  clear e0 e1 e2 e3 e4 e5 e6 e7 e8 e9 e10 e11 e12 e13 e14 e15 e16
  have HI := aM' hI.1
  clear hI
  go_wp2
  go_ret
  exact ⟨by rw [HT.out]; rfl, HI.out.hB⟩
def tag_NodeText.f (a0 : ByteArray) (a1 a2 : Int) (b0 : ByteArray) (b1 b2 : Int) : Option ByteArray := if a0.size ≤ 1000000 ∧ b0.size ≤ 1000000 then some (nodeText ⟨a0, ⟨a1, a2⟩⟩ ⟨b0, ⟨b1, b2⟩⟩) else none
theorem tag_NodeText.calls (a0 : ByteArray) (a1 a2 : Int) (b0 : ByteArray) (b1 b2 : Int) (r : ByteArray) (w : World) (h : tag_NodeText.f a0 a1 a2 b0 b1 b2 = some r) :
  Calls Tryz.prog 71 #[.agg #[.string a0, .int .u64 a1, .int .u64 a2], .agg #[.string b0, .int .u64 b1, .int .u64 b2]] w fun e w' => e = .returned (.string r) ∧ Below w.heap.size w w' := by
 unfold tag_NodeText.f at h
 split at h
 ·
  rename_i hh
  obtain rfl := Option.some.inj h
  exact nodeText.calls ⟨a0, ⟨a1, a2⟩⟩ ⟨b0, ⟨b1, b2⟩⟩ hh.1 hh.2 w
 ·
  cases h
end Go.Proofs.YtlmmpncdemblbaaGreatDoor.P
