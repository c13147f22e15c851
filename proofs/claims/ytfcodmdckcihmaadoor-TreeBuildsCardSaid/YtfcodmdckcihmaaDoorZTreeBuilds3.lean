-- Several texts of this workplace as one.
import Derived.Test.YtfcodmdckcihmaaDoorZTreeBuilds2
import Derived.Test.YtfcodmdckcihmaaDoorProg
import Derived.Deep.OwnRows
import Derived.Laws.Rows
import Derived.Test.YtfcodmdckcihmaaDoorRows
import Derived.Test.YtfcodmdckcihmaaDoorCards
import Derived.Test.YtfcodmdckcihmaaDoorTie
namespace Go.Proofs.YtfcodmdckcihmaaDoor.P
open Go.RowKit Go.Proofs.YtfcodmdckcihmaaDoorW.PrintWords Go.Proofs.YtfcodmdckcihmaaDoorW.PrintLast Go.Proofs.YtfcodmdckcihmaaDoorW.PrintMore
attribute [local go_sem] max2_int min2_int max_two min_two max_three min_three max_four min_four-- for this text's walks alone
set_option linter.unusedVariables false
set_option linter.unusedSimpArgs false
attribute [local go_sem high] eqAU128
def paymasterref07_MayLeaf.f (k : Nat) (a0_0 : Bool) (a0_1 : ByteArray) (a0_2 : ByteArray) (a0_3 : Int) (a0_4 : Int) : Option (Bool) := if a0_0 = true then (if a0_1.toList = ([] : List UInt8) then (if (!(a0_3 == 0) || (!(a0_4 == 0))) = true then (some false) else (some (decide ((a0_2.size : Int) ≤ 32)))) else (some false)) else ((paymasterref07_MayId.f k a0_1).bind fun t118 => (if t118 = true then (some (decide ((a0_2.size : Int) ≤ 32))) else (some false)))
set_option maxHeartbeats 8000000 in
set_option maxRecDepth 100000 in
theorem paymasterref07_MayLeaf.calls (k : Nat) (a0_0 : Bool) (a0_1 : ByteArray) (a0_2 : ByteArray) (a0_3 : Int) (a0_4 : Int) (r : Bool) (w : World) (h : paymasterref07_MayLeaf.f k a0_0 a0_1 a0_2 a0_3 a0_4 = some r) :
  Calls Tryd.prog 60 #[.agg #[.bool a0_0, .string a0_1, .string a0_2, .int .u64 a0_3, .int .u64 a0_4]] w fun e w' => e = .returned (.bool r) ∧ Below w.heap.size w w' := by
 have hu36 := Tryd.underlying36
 have hu34 := Tryd.underlying34
 have HB := aM' (Below.refl w.heap.size w)
 have H : (if a0_0 = true then (if a0_1.toList = ([] : List UInt8) then (if (!(a0_3 == 0) || (!(a0_4 == 0))) = true then (some false) else (some (decide ((a0_2.size : Int) ≤ 32)))) else (some false)) else ((paymasterref07_MayId.f k a0_1).bind fun t118 => (if t118 = true then (some (decide ((a0_2.size : Int) ≤ 32))) else (some false)))) = some r := h
 clear h
 by_cases c2 : a0_0 = true
 ·
  subst c2
  have H1 : (if a0_1.toList = ([] : List UInt8) then (if (!(a0_3 == 0) || (!(a0_4 == 0))) = true then (some false) else (some (decide ((a0_2.size : Int) ≤ 32)))) else (some false)) = some r := by rw [if_pos rfl] at H; exact H
  clear H
  have H := H1
  clear H1
  by_cases c3 : a0_1.toList = ([] : List UInt8)
  ·
   rw [if_pos c3] at H
   have c3b0 : (a0_1.toList == ([] : List UInt8)) = true := beq_iff_eq.mpr c3
   have c3b1 : (a0_1.toList != ([] : List UInt8)) = false := bne_eq_false_iff_eq.mpr c3
   clear c3
   by_cases c4 : (!(a0_3 == 0) || (!(a0_4 == 0))) = true
   ·
    rw [if_pos c4] at H
    have c4b0 : (!(a0_3 == 0) || (!(a0_4 == 0))) = true := c4
    clear c4
    obtain rfl := Option.some.inj H
    go_enter Tryd.func60, Tryd.ntmps60
    go_wp2_with (first | ((with_reducible refine gate_dst (N := 1) rfl ?_); refine box_event ?hg (N := 1) ?hd (cs := #[.bool true, .string a0_1, .string a0_2, .int .u64 a0_3, .int .u64 a0_4]) (t := 36) ?hr ?_; (case hd => rfl); (case hg => rfl); (case hr => first | (go_simp; done) | (go_simp; rfl)); intro gb116 hg w5 hbox hb; have n0_ := aM' (below_step (by repeat (first | (with_reducible first | exact HB.out | apply below_alloc | apply pw_below_drewN | apply below_drew1) | exact HB.out)) hb); have n1_ := aM' (hbox); have n2_ := aM' ((by rw [hg]; exact (below_size (by repeat (first | (with_reducible first | exact HB.out | apply below_alloc | apply pw_below_drewN | apply below_drew1) | exact HB.out))) : w.heap.size ≤ gb116)); have n3_ := aM' ((by rw [hg]; exact (below_size (by repeat (first | (with_reducible first | exact HB.out | apply below_alloc | apply pw_below_drewN | apply below_drew1) | exact HB.out))) : w.heap.size ≤ gb116)); clear HB; have HB := n0_; have BK116 := n1_; have GW116 := n2_; have GE116 := n3_; clear n0_ n1_ n2_ n3_; clear hb hbox hg) | ((with_reducible refine gate_dst (N := 3) rfl ?_); refine box_event ?hg (N := 3) ?hd (cs := #[.int .u64 0, .int .u64 0]) (t := 34) ?hr ?_; (case hd => rfl); (case hg => rfl); (case hr => first | (go_simp; done) | (go_simp; rfl)); intro gb117 hg w6 hbox hb; have n0_ := aM' (blk_below (g := gb116) (o := .cells #[.bool true, .string a0_1, .string a0_2, .int .u64 a0_3, .int .u64 a0_4] 36 (0, 0)) (by (with_reducible repeat (first | refine blk_drewN ?_ _ | refine blk_drew ?_ | refine blk_alloc ?_ _)); exact BK116.out) hb); have n1_ := aM' (below_step (by repeat (first | (with_reducible first | exact HB.out | apply below_alloc | apply pw_below_drewN | apply below_drew1 | refine below_set ?_ GE116.out) | exact HB.out)) hb); have n2_ := aM' (hbox); have n3_ := aM' ((by rw [hg]; exact (below_size (by repeat (first | (with_reducible first | exact HB.out | apply below_alloc | apply pw_below_drewN | apply below_drew1 | refine below_set ?_ GE116.out) | exact HB.out))) : w.heap.size ≤ gb117)); have n4_ := aM' ((by rw [hg]; exact (below_size (by repeat (first | (with_reducible first | exact HB.out | apply below_alloc | apply pw_below_drewN | apply below_drew1 | refine below_set ?_ GE116.out) | exact HB.out))) : w.heap.size ≤ gb117)); have n5_ := aM' ((by rw [hg]; exact Nat.ne_of_lt (blk_lt (g := gb116) (o := .cells #[.bool true, .string a0_1, .string a0_2, .int .u64 a0_3, .int .u64 a0_4] 36 (0, 0)) (by (with_reducible repeat (first | refine blk_drewN ?_ _ | refine blk_drew ?_ | refine blk_alloc ?_ _)); exact BK116.out)) : gb116 ≠ gb117)); have n6_ := aM' ((by rw [hg]; exact Nat.ne_of_gt (blk_lt (g := gb116) (o := .cells #[.bool true, .string a0_1, .string a0_2, .int .u64 a0_3, .int .u64 a0_4] 36 (0, 0)) (by (with_reducible repeat (first | refine blk_drewN ?_ _ | refine blk_drew ?_ | refine blk_alloc ?_ _)); exact BK116.out)) : gb117 ≠ gb116)); clear BK116; clear HB; have BK116 := n0_; have HB := n1_; have BK117 := n2_; have GW117 := n3_; have GE117 := n4_; have NB116_117 := n5_; have NB117_116 := n6_; clear n0_ n1_ n2_ n3_ n4_ n5_ n6_; clear hb hbox hg; have hnb7 := NB117_116.out; have hnc7 := NB116_117.out; have hcz8_0 : w6.cell? ⟨gb117, 0, none⟩ = some (.int .u64 0) := (blk_cell BK117.out 0).trans rfl; have hcz8_1 : w6.cell? ⟨gb117, 1, none⟩ = some (.int .u64 0) := (blk_cell BK117.out 1).trans rfl; have hfz8_0 := blk_frozen BK117.out 0; have hfz8_1 := blk_frozen BK117.out 1; have hcz9_0 : w6.cell? ⟨gb116, 0, none⟩ = some (.bool true) := (blk_cell BK116.out 0).trans rfl; have hcz9_1 : w6.cell? ⟨gb116, 1, none⟩ = some (.string a0_1) := (blk_cell BK116.out 1).trans rfl; have hcz9_2 : w6.cell? ⟨gb116, 2, none⟩ = some (.string a0_2) := (blk_cell BK116.out 2).trans rfl; have hcz9_3 : w6.cell? ⟨gb116, 3, none⟩ = some (.int .u64 a0_3) := (blk_cell BK116.out 3).trans rfl; have hcz9_4 : w6.cell? ⟨gb116, 4, none⟩ = some (.int .u64 a0_4) := (blk_cell BK116.out 4).trans rfl; have hfz9_0 := blk_frozen BK116.out 0; have hfz9_1 := blk_frozen BK116.out 1; have hfz9_2 := blk_frozen BK116.out 2; have hfz9_3 := blk_frozen BK116.out 3; have hfz9_4 := blk_frozen BK116.out 4))
    go_ret
    exact ⟨by first | rfl | (simp [errW_none, errW_some] <;> rfl) | (simp [*, errW_none, errW_some] <;> rfl), by repeat (first | (with_reducible first | exact HB.out | apply below_alloc | apply pw_below_drewN | apply below_drew1 | refine below_set ?_ GE116.out | refine below_set ?_ GE117.out) | exact HB.out)⟩
   ·
    rw [if_neg c4] at H
    have c4b0 : (!(a0_3 == 0) || (!(a0_4 == 0))) = false := by simpa using c4
    clear c4
    obtain rfl := Option.some.inj H
    go_enter Tryd.func60, Tryd.ntmps60
    go_wp2_with (first | ((with_reducible refine gate_dst (N := 1) rfl ?_); refine box_event ?hg (N := 1) ?hd (cs := #[.bool true, .string a0_1, .string a0_2, .int .u64 a0_3, .int .u64 a0_4]) (t := 36) ?hr ?_; (case hd => rfl); (case hg => rfl); (case hr => first | (go_simp; done) | (go_simp; rfl)); intro gb116 hg w10 hbox hb; have n0_ := aM' (below_step (by repeat (first | (with_reducible first | exact HB.out | apply below_alloc | apply pw_below_drewN | apply below_drew1) | exact HB.out)) hb); have n1_ := aM' (hbox); have n2_ := aM' ((by rw [hg]; exact (below_size (by repeat (first | (with_reducible first | exact HB.out | apply below_alloc | apply pw_below_drewN | apply below_drew1) | exact HB.out))) : w.heap.size ≤ gb116)); have n3_ := aM' ((by rw [hg]; exact (below_size (by repeat (first | (with_reducible first | exact HB.out | apply below_alloc | apply pw_below_drewN | apply below_drew1) | exact HB.out))) : w.heap.size ≤ gb116)); clear HB; have HB := n0_; have BK116 := n1_; have GW116 := n2_; have GE116 := n3_; clear n0_ n1_ n2_ n3_; clear hb hbox hg) | ((with_reducible refine gate_dst (N := 3) rfl ?_); refine box_event ?hg (N := 3) ?hd (cs := #[.int .u64 0, .int .u64 0]) (t := 34) ?hr ?_; (case hd => rfl); (case hg => rfl); (case hr => first | (go_simp; done) | (go_simp; rfl)); intro gb117 hg w11 hbox hb; have n0_ := aM' (blk_below (g := gb116) (o := .cells #[.bool true, .string a0_1, .string a0_2, .int .u64 a0_3, .int .u64 a0_4] 36 (0, 0)) (by (with_reducible repeat (first | refine blk_drewN ?_ _ | refine blk_drew ?_ | refine blk_alloc ?_ _)); exact BK116.out) hb); have n1_ := aM' (below_step (by repeat (first | (with_reducible first | exact HB.out | apply below_alloc | apply pw_below_drewN | apply below_drew1 | refine below_set ?_ GE116.out) | exact HB.out)) hb); have n2_ := aM' (hbox); have n3_ := aM' ((by rw [hg]; exact (below_size (by repeat (first | (with_reducible first | exact HB.out | apply below_alloc | apply pw_below_drewN | apply below_drew1 | refine below_set ?_ GE116.out) | exact HB.out))) : w.heap.size ≤ gb117)); have n4_ := aM' ((by rw [hg]; exact (below_size (by repeat (first | (with_reducible first | exact HB.out | apply below_alloc | apply pw_below_drewN | apply below_drew1 | refine below_set ?_ GE116.out) | exact HB.out))) : w.heap.size ≤ gb117)); have n5_ := aM' ((by rw [hg]; exact Nat.ne_of_lt (blk_lt (g := gb116) (o := .cells #[.bool true, .string a0_1, .string a0_2, .int .u64 a0_3, .int .u64 a0_4] 36 (0, 0)) (by (with_reducible repeat (first | refine blk_drewN ?_ _ | refine blk_drew ?_ | refine blk_alloc ?_ _)); exact BK116.out)) : gb116 ≠ gb117)); have n6_ := aM' ((by rw [hg]; exact Nat.ne_of_gt (blk_lt (g := gb116) (o := .cells #[.bool true, .string a0_1, .string a0_2, .int .u64 a0_3, .int .u64 a0_4] 36 (0, 0)) (by (with_reducible repeat (first | refine blk_drewN ?_ _ | refine blk_drew ?_ | refine blk_alloc ?_ _)); exact BK116.out)) : gb117 ≠ gb116)); clear BK116; clear HB; have BK116 := n0_; have HB := n1_; have BK117 := n2_; have GW117 := n3_; have GE117 := n4_; have NB116_117 := n5_; have NB117_116 := n6_; clear n0_ n1_ n2_ n3_ n4_ n5_ n6_; clear hb hbox hg; have hnb12 := NB117_116.out; have hnc12 := NB116_117.out; have hcz13_0 : w11.cell? ⟨gb117, 0, none⟩ = some (.int .u64 0) := (blk_cell BK117.out 0).trans rfl; have hcz13_1 : w11.cell? ⟨gb117, 1, none⟩ = some (.int .u64 0) := (blk_cell BK117.out 1).trans rfl; have hfz13_0 := blk_frozen BK117.out 0; have hfz13_1 := blk_frozen BK117.out 1; have hcz14_0 : w11.cell? ⟨gb116, 0, none⟩ = some (.bool true) := (blk_cell BK116.out 0).trans rfl; have hcz14_1 : w11.cell? ⟨gb116, 1, none⟩ = some (.string a0_1) := (blk_cell BK116.out 1).trans rfl; have hcz14_2 : w11.cell? ⟨gb116, 2, none⟩ = some (.string a0_2) := (blk_cell BK116.out 2).trans rfl; have hcz14_3 : w11.cell? ⟨gb116, 3, none⟩ = some (.int .u64 a0_3) := (blk_cell BK116.out 3).trans rfl; have hcz14_4 : w11.cell? ⟨gb116, 4, none⟩ = some (.int .u64 a0_4) := (blk_cell BK116.out 4).trans rfl; have hfz14_0 := blk_frozen BK116.out 0; have hfz14_1 := blk_frozen BK116.out 1; have hfz14_2 := blk_frozen BK116.out 2; have hfz14_3 := blk_frozen BK116.out 3; have hfz14_4 := blk_frozen BK116.out 4))
    go_ret
    exact ⟨by first | rfl | (simp [errW_none, errW_some] <;> rfl) | (simp [*, errW_none, errW_some] <;> rfl), by repeat (first | (with_reducible first | exact HB.out | apply below_alloc | apply pw_below_drewN | apply below_drew1 | refine below_set ?_ GE116.out | refine below_set ?_ GE117.out) | exact HB.out)⟩
  ·
   rw [if_neg c3] at H
   have c3b0 : (a0_1.toList == ([] : List UInt8)) = false := beq_eq_false_iff_ne.mpr c3
   have c3b1 : (a0_1.toList != ([] : List UInt8)) = true := bne_iff_ne.mpr c3
   obtain rfl := Option.some.inj H
   go_enter Tryd.func60, Tryd.ntmps60
   go_wp2_with (first | ((with_reducible refine gate_dst (N := 1) rfl ?_); refine box_event ?hg (N := 1) ?hd (cs := #[.bool true, .string a0_1, .string a0_2, .int .u64 a0_3, .int .u64 a0_4]) (t := 36) ?hr ?_; (case hd => rfl); (case hg => rfl); (case hr => first | (go_simp; done) | (go_simp; rfl)); intro gb116 hg w15 hbox hb; have n0_ := aM' (below_step (by repeat (first | (with_reducible first | exact HB.out | apply below_alloc | apply pw_below_drewN | apply below_drew1) | exact HB.out)) hb); have n1_ := aM' (hbox); have n2_ := aM' ((by rw [hg]; exact (below_size (by repeat (first | (with_reducible first | exact HB.out | apply below_alloc | apply pw_below_drewN | apply below_drew1) | exact HB.out))) : w.heap.size ≤ gb116)); have n3_ := aM' ((by rw [hg]; exact (below_size (by repeat (first | (with_reducible first | exact HB.out | apply below_alloc | apply pw_below_drewN | apply below_drew1) | exact HB.out))) : w.heap.size ≤ gb116)); clear HB; have HB := n0_; have BK116 := n1_; have GW116 := n2_; have GE116 := n3_; clear n0_ n1_ n2_ n3_; clear hb hbox hg) | ((with_reducible refine gate_dst (N := 3) rfl ?_); refine box_event ?hg (N := 3) ?hd (cs := #[.int .u64 0, .int .u64 0]) (t := 34) ?hr ?_; (case hd => rfl); (case hg => rfl); (case hr => first | (go_simp; done) | (go_simp; rfl)); intro gb117 hg w16 hbox hb; have n0_ := aM' (blk_below (g := gb116) (o := .cells #[.bool true, .string a0_1, .string a0_2, .int .u64 a0_3, .int .u64 a0_4] 36 (0, 0)) (by (with_reducible repeat (first | refine blk_drewN ?_ _ | refine blk_drew ?_ | refine blk_alloc ?_ _)); exact BK116.out) hb); have n1_ := aM' (below_step (by repeat (first | (with_reducible first | exact HB.out | apply below_alloc | apply pw_below_drewN | apply below_drew1 | refine below_set ?_ GE116.out) | exact HB.out)) hb); have n2_ := aM' (hbox); have n3_ := aM' ((by rw [hg]; exact (below_size (by repeat (first | (with_reducible first | exact HB.out | apply below_alloc | apply pw_below_drewN | apply below_drew1 | refine below_set ?_ GE116.out) | exact HB.out))) : w.heap.size ≤ gb117)); have n4_ := aM' ((by rw [hg]; exact (below_size (by repeat (first | (with_reducible first | exact HB.out | apply below_alloc | apply pw_below_drewN | apply below_drew1 | refine below_set ?_ GE116.out) | exact HB.out))) : w.heap.size ≤ gb117)); have n5_ := aM' ((by rw [hg]; exact Nat.ne_of_lt (blk_lt (g := gb116) (o := .cells #[.bool true, .string a0_1, .string a0_2, .int .u64 a0_3, .int .u64 a0_4] 36 (0, 0)) (by (with_reducible repeat (first | refine blk_drewN ?_ _ | refine blk_drew ?_ | refine blk_alloc ?_ _)); exact BK116.out)) : gb116 ≠ gb117)); have n6_ := aM' ((by rw [hg]; exact Nat.ne_of_gt (blk_lt (g := gb116) (o := .cells #[.bool true, .string a0_1, .string a0_2, .int .u64 a0_3, .int .u64 a0_4] 36 (0, 0)) (by (with_reducible repeat (first | refine blk_drewN ?_ _ | refine blk_drew ?_ | refine blk_alloc ?_ _)); exact BK116.out)) : gb117 ≠ gb116)); clear BK116; clear HB; have BK116 := n0_; have HB := n1_; have BK117 := n2_; have GW117 := n3_; have GE117 := n4_; have NB116_117 := n5_; have NB117_116 := n6_; clear n0_ n1_ n2_ n3_ n4_ n5_ n6_; clear hb hbox hg; have hnb17 := NB117_116.out; have hnc17 := NB116_117.out; have hcz18_0 : w16.cell? ⟨gb117, 0, none⟩ = some (.int .u64 0) := (blk_cell BK117.out 0).trans rfl; have hcz18_1 : w16.cell? ⟨gb117, 1, none⟩ = some (.int .u64 0) := (blk_cell BK117.out 1).trans rfl; have hfz18_0 := blk_frozen BK117.out 0; have hfz18_1 := blk_frozen BK117.out 1; have hcz19_0 : w16.cell? ⟨gb116, 0, none⟩ = some (.bool true) := (blk_cell BK116.out 0).trans rfl; have hcz19_1 : w16.cell? ⟨gb116, 1, none⟩ = some (.string a0_1) := (blk_cell BK116.out 1).trans rfl; have hcz19_2 : w16.cell? ⟨gb116, 2, none⟩ = some (.string a0_2) := (blk_cell BK116.out 2).trans rfl; have hcz19_3 : w16.cell? ⟨gb116, 3, none⟩ = some (.int .u64 a0_3) := (blk_cell BK116.out 3).trans rfl; have hcz19_4 : w16.cell? ⟨gb116, 4, none⟩ = some (.int .u64 a0_4) := (blk_cell BK116.out 4).trans rfl; have hfz19_0 := blk_frozen BK116.out 0; have hfz19_1 := blk_frozen BK116.out 1; have hfz19_2 := blk_frozen BK116.out 2; have hfz19_3 := blk_frozen BK116.out 3; have hfz19_4 := blk_frozen BK116.out 4))
   go_ret
   exact ⟨by first | rfl | (simp [errW_none, errW_some] <;> rfl) | (simp [*, errW_none, errW_some] <;> rfl), by repeat (first | (with_reducible first | exact HB.out | apply below_alloc | apply pw_below_drewN | apply below_drew1 | refine below_set ?_ GE116.out | refine below_set ?_ GE117.out) | exact HB.out)⟩
 ·
  replace c2 := Bool.eq_false_iff.mpr c2
  subst c2
  have H1 : ((paymasterref07_MayId.f k a0_1).bind fun t118 => (if t118 = true then (some (decide ((a0_2.size : Int) ≤ 32))) else (some false))) = some r := by rw [if_neg (show ¬ (false = true) by decide)] at H; exact H
  clear H
  have H := H1
  clear H1
  replace H := Option.bind_eq_some_iff.mp H
  obtain ⟨t118, A200, H⟩ := H
  replace H : (if t118 = true then (some (decide ((a0_2.size : Int) ≤ 32))) else (some false)) = some r := H
  have A20 := aM' A200
  clear A200
  by_cases c21 : t118 = true
  ·
   subst c21
   have H1 : (some (decide ((a0_2.size : Int) ≤ 32))) = some r := by rw [if_pos rfl] at H; exact H
   clear H
   have H := H1
   clear H1
   obtain rfl := Option.some.inj H
   go_enter Tryd.func60, Tryd.ntmps60
   go_wp2_with (first | ((with_reducible refine gate_dst (N := 1) rfl ?_); refine box_event ?hg (N := 1) ?hd (cs := #[.bool false, .string a0_1, .string a0_2, .int .u64 a0_3, .int .u64 a0_4]) (t := 36) ?hr ?_; (case hd => rfl); (case hg => rfl); (case hr => first | (go_simp; done) | (go_simp; rfl)); intro gb116 hg w22 hbox hb; have n0_ := aM' (below_step (by repeat (first | (with_reducible first | exact HB.out | apply below_alloc | apply pw_below_drewN | apply below_drew1) | exact HB.out)) hb); have n1_ := aM' (hbox); have n2_ := aM' ((by rw [hg]; exact (below_size (by repeat (first | (with_reducible first | exact HB.out | apply below_alloc | apply pw_below_drewN | apply below_drew1) | exact HB.out))) : w.heap.size ≤ gb116)); have n3_ := aM' ((by rw [hg]; exact (below_size (by repeat (first | (with_reducible first | exact HB.out | apply below_alloc | apply pw_below_drewN | apply below_drew1) | exact HB.out))) : w.heap.size ≤ gb116)); clear HB; have HB := n0_; have BK116 := n1_; have GW116 := n2_; have GE116 := n3_; clear n0_ n1_ n2_ n3_; clear hb hbox hg) | ((with_reducible refine gate_dst (N := 3) rfl ?_); refine box_event ?hg (N := 3) ?hd (cs := #[.int .u64 0, .int .u64 0]) (t := 34) ?hr ?_; (case hd => rfl); (case hg => rfl); (case hr => first | (go_simp; done) | (go_simp; rfl)); intro gb117 hg w23 hbox hb; have n0_ := aM' (blk_below (g := gb116) (o := .cells #[.bool false, .string a0_1, .string a0_2, .int .u64 a0_3, .int .u64 a0_4] 36 (0, 0)) (by (with_reducible repeat (first | refine blk_drewN ?_ _ | refine blk_drew ?_ | refine blk_alloc ?_ _)); exact BK116.out) hb); have n1_ := aM' (below_step (by repeat (first | (with_reducible first | exact HB.out | apply below_alloc | apply pw_below_drewN | apply below_drew1 | refine below_set ?_ GE116.out) | exact HB.out)) hb); have n2_ := aM' (hbox); have n3_ := aM' ((by rw [hg]; exact (below_size (by repeat (first | (with_reducible first | exact HB.out | apply below_alloc | apply pw_below_drewN | apply below_drew1 | refine below_set ?_ GE116.out) | exact HB.out))) : w.heap.size ≤ gb117)); have n4_ := aM' ((by rw [hg]; exact (below_size (by repeat (first | (with_reducible first | exact HB.out | apply below_alloc | apply pw_below_drewN | apply below_drew1 | refine below_set ?_ GE116.out) | exact HB.out))) : w.heap.size ≤ gb117)); have n5_ := aM' ((by rw [hg]; exact Nat.ne_of_lt (blk_lt (g := gb116) (o := .cells #[.bool false, .string a0_1, .string a0_2, .int .u64 a0_3, .int .u64 a0_4] 36 (0, 0)) (by (with_reducible repeat (first | refine blk_drewN ?_ _ | refine blk_drew ?_ | refine blk_alloc ?_ _)); exact BK116.out)) : gb116 ≠ gb117)); have n6_ := aM' ((by rw [hg]; exact Nat.ne_of_gt (blk_lt (g := gb116) (o := .cells #[.bool false, .string a0_1, .string a0_2, .int .u64 a0_3, .int .u64 a0_4] 36 (0, 0)) (by (with_reducible repeat (first | refine blk_drewN ?_ _ | refine blk_drew ?_ | refine blk_alloc ?_ _)); exact BK116.out)) : gb117 ≠ gb116)); clear BK116; clear HB; have BK116 := n0_; have HB := n1_; have BK117 := n2_; have GW117 := n3_; have GE117 := n4_; have NB116_117 := n5_; have NB117_116 := n6_; clear n0_ n1_ n2_ n3_ n4_ n5_ n6_; clear hb hbox hg; have hnb24 := NB117_116.out; have hnc24 := NB116_117.out; have hcz25_0 : w23.cell? ⟨gb117, 0, none⟩ = some (.int .u64 0) := (blk_cell BK117.out 0).trans rfl; have hcz25_1 : w23.cell? ⟨gb117, 1, none⟩ = some (.int .u64 0) := (blk_cell BK117.out 1).trans rfl; have hfz25_0 := blk_frozen BK117.out 0; have hfz25_1 := blk_frozen BK117.out 1; have hcz26_0 : w23.cell? ⟨gb116, 0, none⟩ = some (.bool false) := (blk_cell BK116.out 0).trans rfl; have hcz26_1 : w23.cell? ⟨gb116, 1, none⟩ = some (.string a0_1) := (blk_cell BK116.out 1).trans rfl; have hcz26_2 : w23.cell? ⟨gb116, 2, none⟩ = some (.string a0_2) := (blk_cell BK116.out 2).trans rfl; have hcz26_3 : w23.cell? ⟨gb116, 3, none⟩ = some (.int .u64 a0_3) := (blk_cell BK116.out 3).trans rfl; have hcz26_4 : w23.cell? ⟨gb116, 4, none⟩ = some (.int .u64 a0_4) := (blk_cell BK116.out 4).trans rfl; have hfz26_0 := blk_frozen BK116.out 0; have hfz26_1 := blk_frozen BK116.out 1; have hfz26_2 := blk_frozen BK116.out 2; have hfz26_3 := blk_frozen BK116.out 3; have hfz26_4 := blk_frozen BK116.out 4) | (go_at_call 96; (with_reducible refine (paymasterref07_MayId.calls k a0_1 true _ A20.out).mono ?_); rintro e w' ⟨rfl, ⟨nd, rfl⟩⟩))
   go_ret
   exact ⟨by first | rfl | (simp [errW_none, errW_some] <;> rfl) | (simp [*, errW_none, errW_some] <;> rfl), by repeat (first | (with_reducible first | exact HB.out | apply below_alloc | apply pw_below_drewN | apply below_drew1 | refine below_set ?_ GE116.out | refine below_set ?_ GE117.out) | exact HB.out)⟩
  ·
   replace c21 := Bool.eq_false_iff.mpr c21
   subst c21
   have H1 : (some false) = some r := by rw [if_neg (show ¬ (false = true) by decide)] at H; exact H
   clear H
   have H := H1
   clear H1
   obtain rfl := Option.some.inj H
   go_enter Tryd.func60, Tryd.ntmps60
   go_wp2_with (first | ((with_reducible refine gate_dst (N := 1) rfl ?_); refine box_event ?hg (N := 1) ?hd (cs := #[.bool false, .string a0_1, .string a0_2, .int .u64 a0_3, .int .u64 a0_4]) (t := 36) ?hr ?_; (case hd => rfl); (case hg => rfl); (case hr => first | (go_simp; done) | (go_simp; rfl)); intro gb116 hg w27 hbox hb; have n0_ := aM' (below_step (by repeat (first | (with_reducible first | exact HB.out | apply below_alloc | apply pw_below_drewN | apply below_drew1) | exact HB.out)) hb); have n1_ := aM' (hbox); have n2_ := aM' ((by rw [hg]; exact (below_size (by repeat (first | (with_reducible first | exact HB.out | apply below_alloc | apply pw_below_drewN | apply below_drew1) | exact HB.out))) : w.heap.size ≤ gb116)); have n3_ := aM' ((by rw [hg]; exact (below_size (by repeat (first | (with_reducible first | exact HB.out | apply below_alloc | apply pw_below_drewN | apply below_drew1) | exact HB.out))) : w.heap.size ≤ gb116)); clear HB; have HB := n0_; have BK116 := n1_; have GW116 := n2_; have GE116 := n3_; clear n0_ n1_ n2_ n3_; clear hb hbox hg) | ((with_reducible refine gate_dst (N := 3) rfl ?_); refine box_event ?hg (N := 3) ?hd (cs := #[.int .u64 0, .int .u64 0]) (t := 34) ?hr ?_; (case hd => rfl); (case hg => rfl); (case hr => first | (go_simp; done) | (go_simp; rfl)); intro gb117 hg w28 hbox hb; have n0_ := aM' (blk_below (g := gb116) (o := .cells #[.bool false, .string a0_1, .string a0_2, .int .u64 a0_3, .int .u64 a0_4] 36 (0, 0)) (by (with_reducible repeat (first | refine blk_drewN ?_ _ | refine blk_drew ?_ | refine blk_alloc ?_ _)); exact BK116.out) hb); have n1_ := aM' (below_step (by repeat (first | (with_reducible first | exact HB.out | apply below_alloc | apply pw_below_drewN | apply below_drew1 | refine below_set ?_ GE116.out) | exact HB.out)) hb); have n2_ := aM' (hbox); have n3_ := aM' ((by rw [hg]; exact (below_size (by repeat (first | (with_reducible first | exact HB.out | apply below_alloc | apply pw_below_drewN | apply below_drew1 | refine below_set ?_ GE116.out) | exact HB.out))) : w.heap.size ≤ gb117)); have n4_ := aM' ((by rw [hg]; exact (below_size (by repeat (first | (with_reducible first | exact HB.out | apply below_alloc | apply pw_below_drewN | apply below_drew1 | refine below_set ?_ GE116.out) | exact HB.out))) : w.heap.size ≤ gb117)); have n5_ := aM' ((by rw [hg]; exact Nat.ne_of_lt (blk_lt (g := gb116) (o := .cells #[.bool false, .string a0_1, .string a0_2, .int .u64 a0_3, .int .u64 a0_4] 36 (0, 0)) (by (with_reducible repeat (first | refine blk_drewN ?_ _ | refine blk_drew ?_ | refine blk_alloc ?_ _)); exact BK116.out)) : gb116 ≠ gb117)); have n6_ := aM' ((by rw [hg]; exact Nat.ne_of_gt (blk_lt (g := gb116) (o := .cells #[.bool false, .string a0_1, .string a0_2, .int .u64 a0_3, .int .u64 a0_4] 36 (0, 0)) (by (with_reducible repeat (first | refine blk_drewN ?_ _ | refine blk_drew ?_ | refine blk_alloc ?_ _)); exact BK116.out)) : gb117 ≠ gb116)); clear BK116; clear HB; have BK116 := n0_; have HB := n1_; have BK117 := n2_; have GW117 := n3_; have GE117 := n4_; have NB116_117 := n5_; have NB117_116 := n6_; clear n0_ n1_ n2_ n3_ n4_ n5_ n6_; clear hb hbox hg; have hnb29 := NB117_116.out; have hnc29 := NB116_117.out; have hcz30_0 : w28.cell? ⟨gb117, 0, none⟩ = some (.int .u64 0) := (blk_cell BK117.out 0).trans rfl; have hcz30_1 : w28.cell? ⟨gb117, 1, none⟩ = some (.int .u64 0) := (blk_cell BK117.out 1).trans rfl; have hfz30_0 := blk_frozen BK117.out 0; have hfz30_1 := blk_frozen BK117.out 1; have hcz31_0 : w28.cell? ⟨gb116, 0, none⟩ = some (.bool false) := (blk_cell BK116.out 0).trans rfl; have hcz31_1 : w28.cell? ⟨gb116, 1, none⟩ = some (.string a0_1) := (blk_cell BK116.out 1).trans rfl; have hcz31_2 : w28.cell? ⟨gb116, 2, none⟩ = some (.string a0_2) := (blk_cell BK116.out 2).trans rfl; have hcz31_3 : w28.cell? ⟨gb116, 3, none⟩ = some (.int .u64 a0_3) := (blk_cell BK116.out 3).trans rfl; have hcz31_4 : w28.cell? ⟨gb116, 4, none⟩ = some (.int .u64 a0_4) := (blk_cell BK116.out 4).trans rfl; have hfz31_0 := blk_frozen BK116.out 0; have hfz31_1 := blk_frozen BK116.out 1; have hfz31_2 := blk_frozen BK116.out 2; have hfz31_3 := blk_frozen BK116.out 3; have hfz31_4 := blk_frozen BK116.out 4) | (go_at_call 96; (with_reducible refine (paymasterref07_MayId.calls k a0_1 false _ A20.out).mono ?_); rintro e w' ⟨rfl, ⟨nd, rfl⟩⟩))
   go_ret
   exact ⟨by first | rfl | (simp [errW_none, errW_some] <;> rfl) | (simp [*, errW_none, errW_some] <;> rfl), by repeat (first | (with_reducible first | exact HB.out | apply below_alloc | apply pw_below_drewN | apply below_drew1 | refine below_set ?_ GE116.out | refine below_set ?_ GE117.out) | exact HB.out)⟩
def paymasterref07_LeafText.f (k : Nat) (a0_0 : Bool) (a0_1 : ByteArray) (a0_2 : ByteArray) (a0_3 : Int) (a0_4 : Int) : Option (ByteArray) := (paymasterref07_MayLeaf.f k a0_0 a0_1 a0_2 a0_3 a0_4).bind fun t120 => (if t120 = true then ((some (([((a0_2.size : Int)) % 256] : List Int) : List Int)).bind fun y121 => (if (strOfNums y121).size + a0_2.size ≤ 9223372036854775807 then (if a0_0 = true then (if 1 + ((strOfNums y121) ++ a0_2).size ≤ 9223372036854775807 then (some ((⟨#[2]⟩ : ByteArray) ++ ((strOfNums y121) ++ a0_2))) else (none)) else ((some (([0, ((a0_1.size : Int)) % 256] : List Int) : List Int)).bind fun y124 => (if (strOfNums y124).size + a0_1.size ≤ 9223372036854775807 then (if ((strOfNums y124) ++ a0_1).size + ((strOfNums y121) ++ a0_2).size ≤ 9223372036854775807 then ((paymasterref01_Bytes.f k a0_3 a0_4).bind fun t127 => (if (((strOfNums y124) ++ a0_1) ++ ((strOfNums y121) ++ a0_2)).size + t127.size ≤ 9223372036854775807 then (some ((((strOfNums y124) ++ a0_1) ++ ((strOfNums y121) ++ a0_2)) ++ t127)) else (none))) else (none)) else (none)))) else (none))) else (some (⟨#[]⟩ : ByteArray)))
def paymasterref07_LeafText.T6 : Bool × List (List Nat × List Nat) := (true, [([], []), ([0], [0]), ([1], [1]), ([2], [2]), ([3], [3]), ([4], [4]), ([], []), ([6], [6]), ([5, 7], [5, 7]), ([], []), ([8, 9], [8, 9]), ([], []), ([11], [11]), ([12], [12]), ([10, 13], [10, 13]), ([14, 13, 0, 1, 2, 3, 4, 5, 6, 7, 8, 9, 10, 11, 12, 13, 14], [14])])
def paymasterref07_LeafText.B6 : List Nat := [0, 1, 3, 7, 15, 31, 0, 64, 255, 0, 1023, 0, 2048, 6144, 16383, 32767]
theorem paymasterref07_LeafText.tab6 : rtab .any (opsOf Tryd.f135 6) = paymasterref07_LeafText.T6 := by kernel_rfl
theorem paymasterref07_LeafText.bits6 : waitsOk paymasterref07_LeafText.T6.2 paymasterref07_LeafText.B6 = true := by kernel_rfl
set_option maxHeartbeats 8000000 in
set_option maxRecDepth 100000 in
theorem paymasterref07_LeafText.calls (k : Nat) (a0_0 : Bool) (a0_1 : ByteArray) (a0_2 : ByteArray) (a0_3 : Int) (a0_4 : Int) (r : ByteArray) (w : World) (h : paymasterref07_LeafText.f k a0_0 a0_1 a0_2 a0_3 a0_4 = some r) :
  Calls Tryd.prog 135 #[.agg #[.bool a0_0, .string a0_1, .string a0_2, .int .u64 a0_3, .int .u64 a0_4]] w fun e w' => e = .returned (.string r) ∧ Below w.heap.size w w' := by
 have hu36 := Tryd.underlying36
 have hu34 := Tryd.underlying34
 have HB := aM' (Below.refl w.heap.size w)
 have H : ((paymasterref07_MayLeaf.f k a0_0 a0_1 a0_2 a0_3 a0_4).bind fun t120 => (if t120 = true then ((some (([((a0_2.size : Int)) % 256] : List Int) : List Int)).bind fun y121 => (if (strOfNums y121).size + a0_2.size ≤ 9223372036854775807 then (if a0_0 = true then (if 1 + ((strOfNums y121) ++ a0_2).size ≤ 9223372036854775807 then (some ((⟨#[2]⟩ : ByteArray) ++ ((strOfNums y121) ++ a0_2))) else (none)) else ((some (([0, ((a0_1.size : Int)) % 256] : List Int) : List Int)).bind fun y124 => (if (strOfNums y124).size + a0_1.size ≤ 9223372036854775807 then (if ((strOfNums y124) ++ a0_1).size + ((strOfNums y121) ++ a0_2).size ≤ 9223372036854775807 then ((paymasterref01_Bytes.f k a0_3 a0_4).bind fun t127 => (if (((strOfNums y124) ++ a0_1) ++ ((strOfNums y121) ++ a0_2)).size + t127.size ≤ 9223372036854775807 then (some ((((strOfNums y124) ++ a0_1) ++ ((strOfNums y121) ++ a0_2)) ++ t127)) else (none))) else (none)) else (none)))) else (none))) else (some (⟨#[]⟩ : ByteArray)))) = some r := h
 clear h
 replace H := Option.bind_eq_some_iff.mp H
 obtain ⟨t120, A20, H⟩ := H
 replace H : (if t120 = true then ((some (([((a0_2.size : Int)) % 256] : List Int) : List Int)).bind fun y121 => (if (strOfNums y121).size + a0_2.size ≤ 9223372036854775807 then (if a0_0 = true then (if 1 + ((strOfNums y121) ++ a0_2).size ≤ 9223372036854775807 then (some ((⟨#[2]⟩ : ByteArray) ++ ((strOfNums y121) ++ a0_2))) else (none)) else ((some (([0, ((a0_1.size : Int)) % 256] : List Int) : List Int)).bind fun y124 => (if (strOfNums y124).size + a0_1.size ≤ 9223372036854775807 then (if ((strOfNums y124) ++ a0_1).size + ((strOfNums y121) ++ a0_2).size ≤ 9223372036854775807 then ((paymasterref01_Bytes.f k a0_3 a0_4).bind fun t127 => (if (((strOfNums y124) ++ a0_1) ++ ((strOfNums y121) ++ a0_2)).size + t127.size ≤ 9223372036854775807 then (some ((((strOfNums y124) ++ a0_1) ++ ((strOfNums y121) ++ a0_2)) ++ t127)) else (none))) else (none)) else (none)))) else (none))) else (some (⟨#[]⟩ : ByteArray))) = some r := H
 have A2 := aM' A20
 clear A20
 by_cases c3 : t120 = true
 ·
  subst c3
  have H1 : ((some (([((a0_2.size : Int)) % 256] : List Int) : List Int)).bind fun y121 => (if (strOfNums y121).size + a0_2.size ≤ 9223372036854775807 then (if a0_0 = true then (if 1 + ((strOfNums y121) ++ a0_2).size ≤ 9223372036854775807 then (some ((⟨#[2]⟩ : ByteArray) ++ ((strOfNums y121) ++ a0_2))) else (none)) else ((some (([0, ((a0_1.size : Int)) % 256] : List Int) : List Int)).bind fun y124 => (if (strOfNums y124).size + a0_1.size ≤ 9223372036854775807 then (if ((strOfNums y124) ++ a0_1).size + ((strOfNums y121) ++ a0_2).size ≤ 9223372036854775807 then ((paymasterref01_Bytes.f k a0_3 a0_4).bind fun t127 => (if (((strOfNums y124) ++ a0_1) ++ ((strOfNums y121) ++ a0_2)).size + t127.size ≤ 9223372036854775807 then (some ((((strOfNums y124) ++ a0_1) ++ ((strOfNums y121) ++ a0_2)) ++ t127)) else (none))) else (none)) else (none)))) else (none))) = some r := by rw [if_pos rfl] at H; exact H
  clear H
  have H := H1
  clear H1
  obtain ⟨y121, hy121⟩ : ∃ y_ : List Int, y_ = (([((a0_2.size : Int)) % 256] : List Int)) := ⟨_, rfl⟩
  replace H : (if (strOfNums y121).size + a0_2.size ≤ 9223372036854775807 then (if a0_0 = true then (if 1 + ((strOfNums y121) ++ a0_2).size ≤ 9223372036854775807 then (some ((⟨#[2]⟩ : ByteArray) ++ ((strOfNums y121) ++ a0_2))) else (none)) else ((some (([0, ((a0_1.size : Int)) % 256] : List Int) : List Int)).bind fun y124 => (if (strOfNums y124).size + a0_1.size ≤ 9223372036854775807 then (if ((strOfNums y124) ++ a0_1).size + ((strOfNums y121) ++ a0_2).size ≤ 9223372036854775807 then ((paymasterref01_Bytes.f k a0_3 a0_4).bind fun t127 => (if (((strOfNums y124) ++ a0_1) ++ ((strOfNums y121) ++ a0_2)).size + t127.size ≤ 9223372036854775807 then (some ((((strOfNums y124) ++ a0_1) ++ ((strOfNums y121) ++ a0_2)) ++ t127)) else (none))) else (none)) else (none)))) else (none)) = some r := by first | (rw [hy121]; with_reducible exact H) | (have H2_ := (Option.bind_some _ _).symm.trans H; rw [hy121]; with_reducible exact H2_) | (have H2_ := (Option.bind_some _ _).symm.trans H; with_reducible exact H2_) | with_reducible exact H | (rw [hy121]; exact H) | exact H
  have Ny121 := aM' hy121
  clear hy121
  by_cases c4 : (strOfNums y121).size + a0_2.size ≤ 9223372036854775807
  ·
   rw [if_pos c4] at H
   have c4b0 := eq_true c4
   have c4b1 : decide ((strOfNums y121).size + a0_2.size ≤ 9223372036854775807) = true := decide_eq_true c4
   try have c4b2 : (9223372036854775807 < (strOfNums y121).size + a0_2.size) = False := eq_false (Nat.not_lt.2 c4)
   try (have c4b9 := c4; simp only [ByteArray.size_append, ba_size, List.length_cons, List.length_nil, Nat.zero_add, Nat.reduceAdd] at c4b9; have c4b8 := eq_false (Nat.not_lt.2 c4b9))
   by_cases c5 : a0_0 = true
   ·
    subst c5
    have H1 : (if 1 + ((strOfNums y121) ++ a0_2).size ≤ 9223372036854775807 then (some ((⟨#[2]⟩ : ByteArray) ++ ((strOfNums y121) ++ a0_2))) else (none)) = some r := by rw [if_pos rfl] at H; exact H
    clear H
    have H := H1
    clear H1
    by_cases c6 : 1 + ((strOfNums y121) ++ a0_2).size ≤ 9223372036854775807
    ·
     rw [if_pos c6] at H
     have c6b0 := eq_true c6
     have c6b1 : decide (1 + ((strOfNums y121) ++ a0_2).size ≤ 9223372036854775807) = true := decide_eq_true c6
     try have c6b2 : (9223372036854775807 < 1 + ((strOfNums y121) ++ a0_2).size) = False := eq_false (Nat.not_lt.2 c6)
     try (have c6b9 := c6; simp only [ByteArray.size_append, ba_size, List.length_cons, List.length_nil, Nat.zero_add, Nat.reduceAdd] at c6b9; have c6b8 := eq_false (Nat.not_lt.2 c6b9))
     obtain rfl := Option.some.inj H
     go_enter Tryd.func135, Tryd.ntmps135
     go_wp2_with (first | ((with_reducible refine gate_dst (N := 1) rfl ?_); refine box_event ?hg (N := 1) ?hd (cs := #[.bool true, .string a0_1, .string a0_2, .int .u64 a0_3, .int .u64 a0_4]) (t := 36) ?hr ?_; (case hd => rfl); (case hg => rfl); (case hr => first | (go_simp; done) | (go_simp; rfl)); intro gb119 hg w7 hbox hb; have n0_ := aM' (below_step (by repeat (first | (with_reducible first | exact HB.out | apply below_alloc | apply pw_below_drewN | apply below_drew1) | exact HB.out)) hb); have n1_ := aM' (hbox); have n2_ := aM' ((by rw [hg]; exact (below_size (by repeat (first | (with_reducible first | exact HB.out | apply below_alloc | apply pw_below_drewN | apply below_drew1) | exact HB.out))) : w.heap.size ≤ gb119)); have n3_ := aM' ((by rw [hg]; exact (below_size (by repeat (first | (with_reducible first | exact HB.out | apply below_alloc | apply pw_below_drewN | apply below_drew1) | exact HB.out))) : w.heap.size ≤ gb119)); clear HB; have HB := n0_; have BK119 := n1_; have GW119 := n2_; have GE119 := n3_; clear n0_ n1_ n2_ n3_; clear hb hbox hg; have hcz8_0 : w7.cell? ⟨gb119, 0, none⟩ = some (.bool true) := (blk_cell BK119.out 0).trans rfl; have hcz8_1 : w7.cell? ⟨gb119, 1, none⟩ = some (.string a0_1) := (blk_cell BK119.out 1).trans rfl; have hcz8_2 : w7.cell? ⟨gb119, 2, none⟩ = some (.string a0_2) := (blk_cell BK119.out 2).trans rfl; have hcz8_3 : w7.cell? ⟨gb119, 3, none⟩ = some (.int .u64 a0_3) := (blk_cell BK119.out 3).trans rfl; have hcz8_4 : w7.cell? ⟨gb119, 4, none⟩ = some (.int .u64 a0_4) := (blk_cell BK119.out 4).trans rfl; have hfz8_0 := blk_frozen BK119.out 0; have hfz8_1 := blk_frozen BK119.out 1; have hfz8_2 := blk_frozen BK119.out 2; have hfz8_3 := blk_frozen BK119.out 3; have hfz8_4 := blk_frozen BK119.out 4) | ((with_reducible refine gate_callee (f := 60) rfl ?_); refine goesL_ (some 5) rfl rfl Tryd.func60 (by kernel_rfl) rfl #[.agg #[.bool true, .string a0_1, .string a0_2, .int .u64 a0_3, .int .u64 a0_4]] rfl (by (try simp only [List.map_toArray, List.map_cons, List.map_nil]); first | done | rfl | (simp only [List.length_drop, List.length_take]; rfl)) ?_; (with_reducible refine (paymasterref07_MayLeaf.calls k true a0_1 a0_2 a0_3 a0_4 true _ A2.out).mono ?_); rintro e w9 ⟨rfl, hb⟩; refine ⟨_, rfl, ?_⟩; have n0_ := aM' (blk_below (g := gb119) (o := .cells #[.bool true, .string a0_1, .string a0_2, .int .u64 a0_3, .int .u64 a0_4] 36 (0, 0)) (by (with_reducible repeat (first | refine blk_drewN ?_ _ | refine blk_drew ?_ | refine blk_alloc ?_ _)); exact BK119.out) hb); have n1_ := aM' (below_step (by repeat (first | (with_reducible first | exact HB.out | apply below_alloc | apply pw_below_drewN | apply below_drew1 | refine below_set ?_ GE119.out) | exact HB.out)) hb); clear BK119; clear HB; have BK119 := n0_; have HB := n1_; clear n0_ n1_; (try clear hb); (try clear hb2); (try clear hk); (try clear hi); have hcz10_0 : w9.cell? ⟨gb119, 0, none⟩ = some (.bool true) := (blk_cell BK119.out 0).trans rfl; have hcz10_1 : w9.cell? ⟨gb119, 1, none⟩ = some (.string a0_1) := (blk_cell BK119.out 1).trans rfl; have hcz10_2 : w9.cell? ⟨gb119, 2, none⟩ = some (.string a0_2) := (blk_cell BK119.out 2).trans rfl; have hcz10_3 : w9.cell? ⟨gb119, 3, none⟩ = some (.int .u64 a0_3) := (blk_cell BK119.out 3).trans rfl; have hcz10_4 : w9.cell? ⟨gb119, 4, none⟩ = some (.int .u64 a0_4) := (blk_cell BK119.out 4).trans rfl; have hfz10_0 := blk_frozen BK119.out 0; have hfz10_1 := blk_frozen BK119.out 1; have hfz10_2 := blk_frozen BK119.out 2; have hfz10_3 := blk_frozen BK119.out 3; have hfz10_4 := blk_frozen BK119.out 4) | ((with_reducible refine gate_dst (N := 11) rfl ?_); refine Kd.R_lit (Kd.int .u8) _ 5 ?hg (N := 11) ?hd (xs := ([((a0_2.size : Int)) % 256] : List Int)) (inner := [.int .u8 (((a0_2.size : Int)) % 256)]) (ok := fun _ => True) (okp := fun _ => True) ?hr ?hp (fun _ hk => hk) trivial (Below.refl _ _) (Nat.le_refl _) (by simp) ?_; (case hd => rfl); (case hg => rfl); (case hr => first | (go_simp; done) | (go_simp; rfl)); (case hp => exact (Reps.one (show Kd.M (Kd.int .u8) _ _ _ (((a0_2.size : Int)) % 256) [.int .u8 (((a0_2.size : Int)) % 256)] from rfl) (Reps.none _ _))); intro v122 w11 ho12 hb hg_ hnew_; clear hg_ hnew_; (first | rw [← Ny121.out] at ho12 | (simp only [Int.reduceToNat] at ho12; rw [← Ny121.out] at ho12)); have n0_ := aM' (Kd.R_lower ho12 (below_size (by repeat (first | (with_reducible first | exact HB.out | apply below_alloc | apply pw_below_drewN | apply below_drew1 | refine below_set ?_ GE119.out) | exact HB.out)))); have n1_ := aM' (blk_below (g := gb119) (o := .cells #[.bool true, .string a0_1, .string a0_2, .int .u64 a0_3, .int .u64 a0_4] 36 (0, 0)) (by (with_reducible repeat (first | refine blk_drewN ?_ _ | refine blk_drew ?_ | refine blk_alloc ?_ _)); exact BK119.out) hb); have n2_ := aM' (below_step (by repeat (first | (with_reducible first | exact HB.out | apply below_alloc | apply pw_below_drewN | apply below_drew1 | refine below_set ?_ GE119.out) | exact HB.out)) hb); clear BK119; clear HB; have HO123 := n0_; have BK119 := n1_; have HB := n2_; clear n0_ n1_ n2_; clear hb ho12; have hcv13 := own_string (P := Tryd.prog) Tryd.underlying125 Tryd.underlying5 Tryd.underlying9 (Kd.own_of_R HO123.out); have hcz14_0 : w11.cell? ⟨gb119, 0, none⟩ = some (.bool true) := (blk_cell BK119.out 0).trans rfl; have hcz14_1 : w11.cell? ⟨gb119, 1, none⟩ = some (.string a0_1) := (blk_cell BK119.out 1).trans rfl; have hcz14_2 : w11.cell? ⟨gb119, 2, none⟩ = some (.string a0_2) := (blk_cell BK119.out 2).trans rfl; have hcz14_3 : w11.cell? ⟨gb119, 3, none⟩ = some (.int .u64 a0_3) := (blk_cell BK119.out 3).trans rfl; have hcz14_4 : w11.cell? ⟨gb119, 4, none⟩ = some (.int .u64 a0_4) := (blk_cell BK119.out 4).trans rfl; have hfz14_0 := blk_frozen BK119.out 0; have hfz14_1 := blk_frozen BK119.out 1; have hfz14_2 := blk_frozen BK119.out 2; have hfz14_3 := blk_frozen BK119.out 3; have hfz14_4 := blk_frozen BK119.out 4))
     go_ret
     exact ⟨by first | rfl | (simp [errW_none, errW_some] <;> rfl) | (simp [*, errW_none, errW_some] <;> rfl), by repeat (first | (with_reducible first | exact HB.out | apply below_alloc | apply pw_below_drewN | apply below_drew1 | refine below_set ?_ GE119.out) | exact HB.out)⟩
    ·
     rw [if_neg c6] at H
     exact absurd H (by simp)
   ·
    replace c5 := Bool.eq_false_iff.mpr c5
    subst c5
    have H1 : ((some (([0, ((a0_1.size : Int)) % 256] : List Int) : List Int)).bind fun y124 => (if (strOfNums y124).size + a0_1.size ≤ 9223372036854775807 then (if ((strOfNums y124) ++ a0_1).size + ((strOfNums y121) ++ a0_2).size ≤ 9223372036854775807 then ((paymasterref01_Bytes.f k a0_3 a0_4).bind fun t127 => (if (((strOfNums y124) ++ a0_1) ++ ((strOfNums y121) ++ a0_2)).size + t127.size ≤ 9223372036854775807 then (some ((((strOfNums y124) ++ a0_1) ++ ((strOfNums y121) ++ a0_2)) ++ t127)) else (none))) else (none)) else (none))) = some r := by rw [if_neg (show ¬ (false = true) by decide)] at H; exact H
    clear H
    have H := H1
    clear H1
    obtain ⟨y124, hy124⟩ : ∃ y_ : List Int, y_ = (([0, ((a0_1.size : Int)) % 256] : List Int)) := ⟨_, rfl⟩
    replace H : (if (strOfNums y124).size + a0_1.size ≤ 9223372036854775807 then (if ((strOfNums y124) ++ a0_1).size + ((strOfNums y121) ++ a0_2).size ≤ 9223372036854775807 then ((paymasterref01_Bytes.f k a0_3 a0_4).bind fun t127 => (if (((strOfNums y124) ++ a0_1) ++ ((strOfNums y121) ++ a0_2)).size + t127.size ≤ 9223372036854775807 then (some ((((strOfNums y124) ++ a0_1) ++ ((strOfNums y121) ++ a0_2)) ++ t127)) else (none))) else (none)) else (none)) = some r := by first | (rw [hy124]; with_reducible exact H) | (have H2_ := (Option.bind_some _ _).symm.trans H; rw [hy124]; with_reducible exact H2_) | (have H2_ := (Option.bind_some _ _).symm.trans H; with_reducible exact H2_) | with_reducible exact H | (rw [hy124]; exact H) | exact H
    have Ny124 := aM' hy124
    clear hy124
    by_cases c15 : (strOfNums y124).size + a0_1.size ≤ 9223372036854775807
    ·
     rw [if_pos c15] at H
     have c15b0 := eq_true c15
     have c15b1 : decide ((strOfNums y124).size + a0_1.size ≤ 9223372036854775807) = true := decide_eq_true c15
     try have c15b2 : (9223372036854775807 < (strOfNums y124).size + a0_1.size) = False := eq_false (Nat.not_lt.2 c15)
     try (have c15b9 := c15; simp only [ByteArray.size_append, ba_size, List.length_cons, List.length_nil, Nat.zero_add, Nat.reduceAdd] at c15b9; have c15b8 := eq_false (Nat.not_lt.2 c15b9))
     by_cases c16 : ((strOfNums y124) ++ a0_1).size + ((strOfNums y121) ++ a0_2).size ≤ 9223372036854775807
     ·
      rw [if_pos c16] at H
      have c16b0 := eq_true c16
      have c16b1 : decide (((strOfNums y124) ++ a0_1).size + ((strOfNums y121) ++ a0_2).size ≤ 9223372036854775807) = true := decide_eq_true c16
      try have c16b2 : (9223372036854775807 < ((strOfNums y124) ++ a0_1).size + ((strOfNums y121) ++ a0_2).size) = False := eq_false (Nat.not_lt.2 c16)
      try (have c16b9 := c16; simp only [ByteArray.size_append, ba_size, List.length_cons, List.length_nil, Nat.zero_add, Nat.reduceAdd] at c16b9; have c16b8 := eq_false (Nat.not_lt.2 c16b9))
      replace H := Option.bind_eq_some_iff.mp H
      obtain ⟨t127, A170, H⟩ := H
      replace H : (if (((strOfNums y124) ++ a0_1) ++ ((strOfNums y121) ++ a0_2)).size + t127.size ≤ 9223372036854775807 then (some ((((strOfNums y124) ++ a0_1) ++ ((strOfNums y121) ++ a0_2)) ++ t127)) else (none)) = some r := H
      have A17 := aM' A170
      clear A170
      by_cases c18 : (((strOfNums y124) ++ a0_1) ++ ((strOfNums y121) ++ a0_2)).size + t127.size ≤ 9223372036854775807
      ·
       rw [if_pos c18] at H
       have c18b0 := eq_true c18
       have c18b1 : decide ((((strOfNums y124) ++ a0_1) ++ ((strOfNums y121) ++ a0_2)).size + t127.size ≤ 9223372036854775807) = true := decide_eq_true c18
       try have c18b2 : (9223372036854775807 < (((strOfNums y124) ++ a0_1) ++ ((strOfNums y121) ++ a0_2)).size + t127.size) = False := eq_false (Nat.not_lt.2 c18)
       try (have c18b9 := c18; simp only [ByteArray.size_append, ba_size, List.length_cons, List.length_nil, Nat.zero_add, Nat.reduceAdd] at c18b9; have c18b8 := eq_false (Nat.not_lt.2 c18b9))
       obtain rfl := Option.some.inj H
       go_enter Tryd.func135, Tryd.ntmps135
       try go_wp2_with (first | ((with_reducible refine gate_dst (N := 1) rfl ?_); refine box_event ?hg (N := 1) ?hd (cs := #[.bool false, .string a0_1, .string a0_2, .int .u64 a0_3, .int .u64 a0_4]) (t := 36) ?hr ?_; (case hd => rfl); (case hg => rfl); (case hr => first | (go_simp; done) | (go_simp; rfl)); intro gb119 hg w19 hbox hb; have n0_ := aM' (below_step (by repeat (first | (with_reducible first | exact HB.out | apply below_alloc | apply pw_below_drewN | apply below_drew1) | exact HB.out)) hb); have n1_ := aM' (hbox); have n2_ := aM' ((by rw [hg]; exact (below_size (by repeat (first | (with_reducible first | exact HB.out | apply below_alloc | apply pw_below_drewN | apply below_drew1) | exact HB.out))) : w.heap.size ≤ gb119)); have n3_ := aM' ((by rw [hg]; exact (below_size (by repeat (first | (with_reducible first | exact HB.out | apply below_alloc | apply pw_below_drewN | apply below_drew1) | exact HB.out))) : w.heap.size ≤ gb119)); clear HB; have HB := n0_; have BK119 := n1_; have GW119 := n2_; have GE119 := n3_; clear n0_ n1_ n2_ n3_; clear hb hbox hg; have hcz20_0 : w19.cell? ⟨gb119, 0, none⟩ = some (.bool false) := (blk_cell BK119.out 0).trans rfl; have hcz20_1 : w19.cell? ⟨gb119, 1, none⟩ = some (.string a0_1) := (blk_cell BK119.out 1).trans rfl; have hcz20_2 : w19.cell? ⟨gb119, 2, none⟩ = some (.string a0_2) := (blk_cell BK119.out 2).trans rfl; have hcz20_3 : w19.cell? ⟨gb119, 3, none⟩ = some (.int .u64 a0_3) := (blk_cell BK119.out 3).trans rfl; have hcz20_4 : w19.cell? ⟨gb119, 4, none⟩ = some (.int .u64 a0_4) := (blk_cell BK119.out 4).trans rfl; have hfz20_0 := blk_frozen BK119.out 0; have hfz20_1 := blk_frozen BK119.out 1; have hfz20_2 := blk_frozen BK119.out 2; have hfz20_3 := blk_frozen BK119.out 3; have hfz20_4 := blk_frozen BK119.out 4) | ((with_reducible refine gate_callee (f := 60) rfl ?_); refine goesL_ (some 5) rfl rfl Tryd.func60 (by kernel_rfl) rfl #[.agg #[.bool false, .string a0_1, .string a0_2, .int .u64 a0_3, .int .u64 a0_4]] rfl (by (try simp only [List.map_toArray, List.map_cons, List.map_nil]); first | done | rfl | (simp only [List.length_drop, List.length_take]; rfl)) ?_; (with_reducible refine (paymasterref07_MayLeaf.calls k false a0_1 a0_2 a0_3 a0_4 true _ A2.out).mono ?_); rintro e w21 ⟨rfl, hb⟩; refine ⟨_, rfl, ?_⟩; have n0_ := aM' (blk_below (g := gb119) (o := .cells #[.bool false, .string a0_1, .string a0_2, .int .u64 a0_3, .int .u64 a0_4] 36 (0, 0)) (by (with_reducible repeat (first | refine blk_drewN ?_ _ | refine blk_drew ?_ | refine blk_alloc ?_ _)); exact BK119.out) hb); have n1_ := aM' (below_step (by repeat (first | (with_reducible first | exact HB.out | apply below_alloc | apply pw_below_drewN | apply below_drew1 | refine below_set ?_ GE119.out) | exact HB.out)) hb); clear BK119; clear HB; have BK119 := n0_; have HB := n1_; clear n0_ n1_; (try clear hb); (try clear hb2); (try clear hk); (try clear hi); have hcz22_0 : w21.cell? ⟨gb119, 0, none⟩ = some (.bool false) := (blk_cell BK119.out 0).trans rfl; have hcz22_1 : w21.cell? ⟨gb119, 1, none⟩ = some (.string a0_1) := (blk_cell BK119.out 1).trans rfl; have hcz22_2 : w21.cell? ⟨gb119, 2, none⟩ = some (.string a0_2) := (blk_cell BK119.out 2).trans rfl; have hcz22_3 : w21.cell? ⟨gb119, 3, none⟩ = some (.int .u64 a0_3) := (blk_cell BK119.out 3).trans rfl; have hcz22_4 : w21.cell? ⟨gb119, 4, none⟩ = some (.int .u64 a0_4) := (blk_cell BK119.out 4).trans rfl; have hfz22_0 := blk_frozen BK119.out 0; have hfz22_1 := blk_frozen BK119.out 1; have hfz22_2 := blk_frozen BK119.out 2; have hfz22_3 := blk_frozen BK119.out 3; have hfz22_4 := blk_frozen BK119.out 4) | ((with_reducible refine gate_dst (N := 11) rfl ?_); refine Kd.R_lit (Kd.int .u8) _ 5 ?hg (N := 11) ?hd (xs := ([((a0_2.size : Int)) % 256] : List Int)) (inner := [.int .u8 (((a0_2.size : Int)) % 256)]) (ok := fun _ => True) (okp := fun _ => True) ?hr ?hp (fun _ hk => hk) trivial (Below.refl _ _) (Nat.le_refl _) (by simp) ?_; (case hd => rfl); (case hg => rfl); (case hr => first | (go_simp; done) | (go_simp; rfl)); (case hp => exact (Reps.one (show Kd.M (Kd.int .u8) _ _ _ (((a0_2.size : Int)) % 256) [.int .u8 (((a0_2.size : Int)) % 256)] from rfl) (Reps.none _ _))); intro v122 w23 ho24 hb hg_ hnew_; clear hg_ hnew_; (first | rw [← Ny121.out] at ho24 | (simp only [Int.reduceToNat] at ho24; rw [← Ny121.out] at ho24)); have n0_ := aM' (Kd.R_lower ho24 (below_size (by repeat (first | (with_reducible first | exact HB.out | apply below_alloc | apply pw_below_drewN | apply below_drew1 | refine below_set ?_ GE119.out) | exact HB.out)))); have n1_ := aM' (blk_below (g := gb119) (o := .cells #[.bool false, .string a0_1, .string a0_2, .int .u64 a0_3, .int .u64 a0_4] 36 (0, 0)) (by (with_reducible repeat (first | refine blk_drewN ?_ _ | refine blk_drew ?_ | refine blk_alloc ?_ _)); exact BK119.out) hb); have n2_ := aM' (below_step (by repeat (first | (with_reducible first | exact HB.out | apply below_alloc | apply pw_below_drewN | apply below_drew1 | refine below_set ?_ GE119.out) | exact HB.out)) hb); clear BK119; clear HB; have HO123 := n0_; have BK119 := n1_; have HB := n2_; clear n0_ n1_ n2_; clear hb ho24; have hcv25 := own_string (P := Tryd.prog) Tryd.underlying125 Tryd.underlying5 Tryd.underlying9 (Kd.own_of_R HO123.out); have hcz26_0 : w23.cell? ⟨gb119, 0, none⟩ = some (.bool false) := (blk_cell BK119.out 0).trans rfl; have hcz26_1 : w23.cell? ⟨gb119, 1, none⟩ = some (.string a0_1) := (blk_cell BK119.out 1).trans rfl; have hcz26_2 : w23.cell? ⟨gb119, 2, none⟩ = some (.string a0_2) := (blk_cell BK119.out 2).trans rfl; have hcz26_3 : w23.cell? ⟨gb119, 3, none⟩ = some (.int .u64 a0_3) := (blk_cell BK119.out 3).trans rfl; have hcz26_4 : w23.cell? ⟨gb119, 4, none⟩ = some (.int .u64 a0_4) := (blk_cell BK119.out 4).trans rfl; have hfz26_0 := blk_frozen BK119.out 0; have hfz26_1 := blk_frozen BK119.out 1; have hfz26_2 := blk_frozen BK119.out 2; have hfz26_3 := blk_frozen BK119.out 3; have hfz26_4 := blk_frozen BK119.out 4))
       have n0_ := aM' (Kd.R_drew HO123.out)
       have n1_ := aM' (blk_drew BK119.out)
       have n2_ := aM' (below_drew1 HB.out)
       clear HO123
       clear BK119
       clear HB
       have HO123 := n0_
       have BK119 := n1_
       have HB := n2_
       clear n0_ n1_ n2_
       refine start_ (n := 16) (S := fun w' => w'.cell? ⟨gb119, 0, none⟩ = some (.bool false) ∧ w'.cell? ⟨gb119, 1, none⟩ = some (.string a0_1) ∧ w'.cell? ⟨gb119, 2, none⟩ = some (.string a0_2) ∧ w'.cell? ⟨gb119, 3, none⟩ = some (.int .u64 a0_3) ∧ w'.cell? ⟨gb119, 4, none⟩ = some (.int .u64 a0_4)) (ds := []) #[false, false, false, false, false, false, false, false, false, false, false, false, false, false, false, false] (by kernel_rfl) rfl rfl ⟨(blk_cell BK119.out 0).trans rfl, (blk_cell BK119.out 1).trans rfl, (blk_cell BK119.out 2).trans rfl, (blk_cell BK119.out 3).trans rfl, (blk_cell BK119.out 4).trans rfl⟩ (fun hHeld => ?_); refine with_tabW paymasterref07_LeafText.tab6 paymasterref07_LeafText.bits6 (fun HT_ HW_ => ?_)
       generalize w23.drew = w27 at HO123 BK119 HB hHeld ⊢
       refine pure_ (i := 0) (N := some 20) (v := ?_) (a' := ?_) #[true, false, false, false, false, false, false, false, false, false, false, false, false, false, false, false] rfl rfl (any_of HT_.out (by kernel_rfl)) (fun _ _ _ h => h) (Or.inl ⟨by rfl, ?_⟩) ?_ ?_
       rotate_left
       ·
        intro w'
        go_simp
        with_reducible rfl
       rotate_left
       ·
        simp only [Act.put, List.setIfInBounds_toArray, List.set_cons_zero, List.set_cons_succ, i64_w, i32_w]
        rfl
       refine pure_ (i := 6) (N := some 26) (v := ?_) (a' := ?_) #[true, false, false, false, false, false, true, false, false, false, false, false, false, false, false, false] rfl rfl (any_of HT_.out (by kernel_rfl)) (fun _ _ _ h => h) (Or.inl ⟨by rfl, ?_⟩) ?_ ?_
       rotate_left
       ·
        intro w'
        go_simp
        with_reducible rfl
       rotate_left
       ·
        simp only [Act.put, List.setIfInBounds_toArray, List.set_cons_zero, List.set_cons_succ, i64_w, i32_w]
        rfl
       refine pure_ (i := 9) (N := some 29) (v := ?_) (a' := ?_) #[true, false, false, false, false, false, true, false, false, true, false, false, false, false, false, false] rfl rfl (any_of HT_.out (by kernel_rfl)) (fun _ _ _ h => h) (Or.inl ⟨by rfl, ?_⟩) ?_ ?_
       rotate_left
       ·
        intro w'
        go_simp
        with_reducible rfl
       rotate_left
       ·
        simp only [Act.put, List.setIfInBounds_toArray, List.set_cons_zero, List.set_cons_succ, i64_w, i32_w]
        rfl
       refine pure_ (i := 11) (N := some 31) (v := ?_) (a' := ?_) #[true, false, false, false, false, false, true, false, false, true, false, true, false, false, false, false] rfl rfl (any_of HT_.out (by kernel_rfl)) (fun _ _ _ h => h) (Or.inl ⟨by rfl, ?_⟩) ?_ ?_
       rotate_left
       ·
        intro w'
        go_simp
        with_reducible rfl
       rotate_left
       ·
        simp only [Act.put, List.setIfInBounds_toArray, List.set_cons_zero, List.set_cons_succ, i64_w, i32_w]
        rfl
       refine take_ (i := 1) (N := some 21) (v := ?_) (a' := ?_) #[true, true, false, false, false, false, true, false, false, true, false, true, false, false, false, false] rfl rfl (take_ofW HT_.out HW_.out (by kernel_rfl)) (fun _ _ _ h => h) (Or.inl ⟨by rfl, ?_⟩) hHeld ?_ ?_
       rotate_left
       ·
        rintro w' ⟨s0, s1, s2, s3, s4⟩
        go_simp
        with_reducible rfl
       rotate_left
       ·
        simp only [Act.put, List.setIfInBounds_toArray, List.set_cons_zero, List.set_cons_succ, i64_w, i32_w]
        rfl
       refine pure_ (i := 2) (N := some 22) (v := ?_) (a' := ?_) #[true, true, true, false, false, false, true, false, false, true, false, true, false, false, false, false] rfl rfl (any_of HT_.out (by kernel_rfl)) (fun _ _ _ h => h) (Or.inl ⟨by rfl, ?_⟩) ?_ ?_
       rotate_left
       ·
        intro w'
        go_simp
        with_reducible rfl
       rotate_left
       ·
        simp only [Act.put, List.setIfInBounds_toArray, List.set_cons_zero, List.set_cons_succ, i64_w, i32_w]
        rfl
       refine pure_ (i := 3) (N := some 23) (v := ?_) (a' := ?_) #[true, true, true, true, false, false, true, false, false, true, false, true, false, false, false, false] rfl rfl (any_of HT_.out (by kernel_rfl)) (fun _ _ _ h => h) (Or.inl ⟨by rfl, ?_⟩) ?_ ?_
       rotate_left
       ·
        intro w'
        go_simp
        with_reducible rfl
       rotate_left
       ·
        simp only [Act.put, List.setIfInBounds_toArray, List.set_cons_zero, List.set_cons_succ, i64_w, i32_w]
        rfl
       refine take_ (i := 7) (N := some 27) (v := ?_) (a' := ?_) #[true, true, true, true, false, false, true, true, false, true, false, true, false, false, false, false] rfl rfl (take_ofW HT_.out HW_.out (by kernel_rfl)) (fun _ _ _ h => h) (Or.inl ⟨by rfl, ?_⟩) hHeld ?_ ?_
       rotate_left
       ·
        rintro w' ⟨s0, s1, s2, s3, s4⟩
        go_simp
        with_reducible rfl
       rotate_left
       ·
        simp only [Act.put, List.setIfInBounds_toArray, List.set_cons_zero, List.set_cons_succ, i64_w, i32_w]
        rfl
       refine take_ (i := 12) (N := some 32) (v := ?_) (a' := ?_) #[true, true, true, true, false, false, true, true, false, true, false, true, true, false, false, false] rfl rfl (take_ofW HT_.out HW_.out (by kernel_rfl)) (fun _ _ _ h => h) (Or.inl ⟨by rfl, ?_⟩) hHeld ?_ ?_
       rotate_left
       ·
        rintro w' ⟨s0, s1, s2, s3, s4⟩
        go_simp
        with_reducible rfl
       rotate_left
       ·
        simp only [Act.put, List.setIfInBounds_toArray, List.set_cons_zero, List.set_cons_succ, i64_w, i32_w]
        rfl
       refine join_ (σ := Value) 2 #[true, true, true, true, true, true, true, true, true, true, true, true, true, true, false, false] (fun s_ => [(24, s_), (25, .string (strOfNums y124)), (33, .string t127), (28, .string ((strOfNums y124) ++ a0_1)), (30, .string (((strOfNums y124) ++ a0_1) ++ ((strOfNums y121) ++ a0_2)))]) (fun s_ w' => (w'.cell? ⟨gb119, 0, none⟩ = some (.bool false) ∧ w'.cell? ⟨gb119, 1, none⟩ = some (.string a0_1) ∧ w'.cell? ⟨gb119, 2, none⟩ = some (.string a0_2) ∧ w'.cell? ⟨gb119, 3, none⟩ = some (.int .u64 a0_3) ∧ w'.cell? ⟨gb119, 4, none⟩ = some (.int .u64 a0_4)) ∧ (Kd.R (Kd.int .u8) 5 w' w.heap.size (fun k_ => some k_ ≠ (s_ : Value).ownBlock) v122 y121) ∧ (Kd.R (Kd.int .u8) 5 w' w.heap.size (fun k_ => some k_ ≠ (v122 : Value).ownBlock) s_ y124) ∧ (w'.heap[gb119]? = some (.cells #[.bool false, .string a0_1, .string a0_2, .int .u64 a0_3, .int .u64 a0_4] 36 (0, 0))) ∧ (Below w.heap.size w w')) ?_ ?_
       rotate_left
       ·
        intro hCont
        refine two_ (i := 4) (j := 13) (Ni := some 24) (Nj := some 33) #[true, true, true, true, true, false, true, true, false, true, false, true, true, false, false, false] #[true, true, true, true, false, false, true, true, false, true, false, true, true, true, false, false] rfl rfl rfl rfl (two_of HT_.out (by kernel_rfl)) (by decide) (by decide) (fun K hK => ?_) (fun K hK => ?_)
        ·
         skip
         refine Kd.R_lit_step (Kd.int .u8) _ 5 ?hg (N := 24) ?hd (xs := ([0, ((a0_1.size : Int)) % 256] : List Int)) (inner := [.int .u8 0, .int .u8 (((a0_1.size : Int)) % 256)]) (ok := fun _ => True) (okp := fun _ => True) ?hr ?hp (fun _ hk => hk) trivial (Below.refl _ _) (Nat.le_refl _) (by simp) ?_; (case hd => rfl); (case hg => rfl); (case hr => first | (go_simp; done) | (go_simp; rfl)); (case hp => exact (Reps.one (show Kd.M (Kd.int .u8) _ _ _ 0 [.int .u8 0] from rfl) (Reps.one (show Kd.M (Kd.int .u8) _ _ _ (((a0_1.size : Int)) % 256) [.int .u8 (((a0_1.size : Int)) % 256)] from rfl) (Reps.none _ _))))
         intro v125 w28 ho29 hb hg_ hnew_
         clear hg_ hnew_
         (first | rw [← Ny124.out] at ho29 | (simp only [Int.reduceToNat] at ho29; rw [← Ny124.out] at ho29))
         have n0_ := aM' (Kd.R_elder' (by (with_reducible repeat (first | apply Kd.R_alloc | apply Kd.R_drewN | apply Kd.R_drew)); exact HO123.out) (Kd.R_base ho29) hb)
         have n1_ := aM' (Kd.R_lower (Kd.R_new' ho29 (Kd.R_lt (by (with_reducible repeat (first | apply Kd.R_alloc | apply Kd.R_drewN | apply Kd.R_drew)); exact HO123.out))) (below_size (by repeat (first | (with_reducible first | exact HB.out | apply below_alloc | apply pw_below_drewN | apply below_drew1 | refine below_set ?_ GE119.out) | exact HB.out))))
         have n2_ := aM' (blk_below (g := gb119) (o := .cells #[.bool false, .string a0_1, .string a0_2, .int .u64 a0_3, .int .u64 a0_4] 36 (0, 0)) (by (with_reducible repeat (first | refine blk_drewN ?_ _ | refine blk_drew ?_ | refine blk_alloc ?_ _)); exact BK119.out) hb)
         have n3_ := aM' (below_step (by repeat (first | (with_reducible first | exact HB.out | apply below_alloc | apply pw_below_drewN | apply below_drew1 | refine below_set ?_ GE119.out) | exact HB.out)) hb)
         clear HO123
         clear BK119
         clear HB
         have HO123 := n0_
         have HO126 := n1_
         have BK119 := n2_
         have HB := n3_
         clear n0_ n1_ n2_ n3_
         clear hb ho29
         refine hK.out _ _ ⟨(blk_cell BK119.out 0).trans rfl, (blk_cell BK119.out 1).trans rfl, (blk_cell BK119.out 2).trans rfl, (blk_cell BK119.out 3).trans rfl, (blk_cell BK119.out 4).trans rfl⟩ (fun hHeld => ?_)
         clear hK K
         refine norm_ (a' := ?_) ?_ ?_
         rotate_left
         ·
          show Act.put _ (some 24) _ = _
          simp only [Act.put, List.setIfInBounds_toArray, List.set_cons_zero, List.set_cons_succ, i64_w, i32_w]
          rfl
         refine two_ (i := 5) (j := 13) (Ni := some 25) (Nj := some 33) #[true, true, true, true, true, true, true, true, false, true, false, true, true, false, false, false] #[true, true, true, true, true, false, true, true, false, true, false, true, true, true, false, false] rfl rfl rfl rfl (two_of HT_.out (by kernel_rfl)) (by decide) (by decide) (fun K hK => ?_) (fun K hK => ?_)
         ·
          skip
          have hcv30 := own_string (P := Tryd.prog) Tryd.underlying125 Tryd.underlying5 Tryd.underlying9 (Kd.own_of_R HO126.out)
          refine value_ (w1 := ?_) (v := ?_) (by rfl) rfl ?_ ?_
          rotate_left 2
          ·
           go_simp
           constructor
           ·
            rfl
           ·
            rfl
          clear hcv30
          refine hK.out _ _ ⟨(blk_cell BK119.out 0).trans rfl, (blk_cell BK119.out 1).trans rfl, (blk_cell BK119.out 2).trans rfl, (blk_cell BK119.out 3).trans rfl, (blk_cell BK119.out 4).trans rfl⟩ (fun hHeld => ?_)
          clear hK K
          refine norm_ (a' := ?_) ?_ ?_
          rotate_left
          ·
           show Act.put _ (some 25) _ = _
           simp only [Act.put, List.setIfInBounds_toArray, List.set_cons_zero, List.set_cons_succ, i64_w, i32_w]
           rfl
          refine pure_ (i := 8) (N := some 28) (v := ?_) (a' := ?_) #[true, true, true, true, true, true, true, true, true, true, false, true, true, false, false, false] rfl rfl (any_of HT_.out (by kernel_rfl)) (fun _ _ _ h => h) (Or.inl ⟨by rfl, ?_⟩) ?_ ?_
          rotate_left
          ·
           intro w'
           go_simp
           with_reducible rfl
          rotate_left
          ·
           simp only [Act.put, List.setIfInBounds_toArray, List.set_cons_zero, List.set_cons_succ, i64_w, i32_w]
           rfl
          refine pure_ (i := 10) (N := some 30) (v := ?_) (a' := ?_) #[true, true, true, true, true, true, true, true, true, true, true, true, true, false, false, false] rfl rfl (any_of HT_.out (by kernel_rfl)) (fun _ _ _ h => h) (Or.inl ⟨by rfl, ?_⟩) ?_ ?_
          rotate_left
          ·
           intro w'
           go_simp
           with_reducible rfl
          rotate_left
          ·
           simp only [Act.put, List.setIfInBounds_toArray, List.set_cons_zero, List.set_cons_succ, i64_w, i32_w]
           rfl
          refine one_ (i := 13) (N := some 33) #[true, true, true, true, true, true, true, true, true, true, true, true, true, true, false, false] rfl rfl (one_of HT_.out (by kernel_rfl)) (by decide) (fun K hK => ?_)
          refine goes_ Tryd.func159 (by kernel_rfl) rfl #[.agg #[.int .u64 a0_3, .int .u64 a0_4]] (by rfl) rfl rfl (by (try simp only [List.map_toArray, List.map_cons, List.map_nil]); first | done | rfl | (simp only [List.length_drop, List.length_take]; rfl)) ?_
          with_reducible refine (paymasterref01_Bytes.calls k a0_3 a0_4 t127 _ A17.out).mono ?_
          rintro e w31 ⟨rfl, hb⟩
          refine ⟨_, rfl, ?_⟩
          have n0_ := aM' (Kd.R_below (by (with_reducible repeat (first | apply Kd.R_alloc | apply Kd.R_drewN | apply Kd.R_drew)); exact HO123.out) hb)
          have n1_ := aM' (Kd.R_below (by (with_reducible repeat (first | apply Kd.R_alloc | apply Kd.R_drewN | apply Kd.R_drew)); exact HO126.out) hb)
          have n2_ := aM' (blk_below (g := gb119) (o := .cells #[.bool false, .string a0_1, .string a0_2, .int .u64 a0_3, .int .u64 a0_4] 36 (0, 0)) (by (with_reducible repeat (first | refine blk_drewN ?_ _ | refine blk_drew ?_ | refine blk_alloc ?_ _)); exact BK119.out) hb)
          have n3_ := aM' (below_step (by repeat (first | (with_reducible first | exact HB.out | apply below_alloc | apply pw_below_drewN | apply below_drew1 | refine below_set ?_ GE119.out) | exact HB.out)) hb)
          clear HO123
          clear HO126
          clear BK119
          clear HB
          have HO123 := n0_
          have HO126 := n1_
          have BK119 := n2_
          have HB := n3_
          clear n0_ n1_ n2_ n3_
          (try clear hb)
          (try clear hb2)
          (try clear hk)
          (try clear hi)
          refine hK.out _ _ ⟨(blk_cell BK119.out 0).trans rfl, (blk_cell BK119.out 1).trans rfl, (blk_cell BK119.out 2).trans rfl, (blk_cell BK119.out 3).trans rfl, (blk_cell BK119.out 4).trans rfl⟩ (fun hHeld => ?_)
          clear hK K
          refine norm_ (a' := ?_) ?_ ?_
          rotate_left
          ·
           show Act.put _ (some 33) _ = _
           simp only [Act.put, List.setIfInBounds_toArray, List.set_cons_zero, List.set_cons_succ, i64_w, i32_w]
           rfl
          exact norm_ (by simp only [putAll, Act.put, List.setIfInBounds_toArray, List.set_cons_zero, List.set_cons_succ]) (hCont (v125) _ ⟨hHeld, (by (with_reducible repeat (first | apply Kd.R_alloc | apply Kd.R_drewN | apply Kd.R_drew)); exact Kd.R_mono HO123.out (fun _ hk => hk.2)), (by (with_reducible repeat (first | apply Kd.R_alloc | apply Kd.R_drewN | apply Kd.R_drew)); exact Kd.R_mono HO126.out (fun _ hk => hk.2)), (by (with_reducible repeat (first | refine blk_drewN ?_ _ | refine blk_drew ?_ | refine blk_alloc ?_ _)); exact BK119.out), (by repeat (first | (with_reducible first | exact HB.out | apply below_alloc | apply pw_below_drewN | apply below_drew1 | refine below_set ?_ GE119.out) | exact HB.out))⟩)
         ·
          skip
          refine goes_ Tryd.func159 (by kernel_rfl) rfl #[.agg #[.int .u64 a0_3, .int .u64 a0_4]] (by rfl) rfl rfl (by (try simp only [List.map_toArray, List.map_cons, List.map_nil]); first | done | rfl | (simp only [List.length_drop, List.length_take]; rfl)) ?_
          with_reducible refine (paymasterref01_Bytes.calls k a0_3 a0_4 t127 _ A17.out).mono ?_
          rintro e w30 ⟨rfl, hb⟩
          refine ⟨_, rfl, ?_⟩
          have n0_ := aM' (Kd.R_below (by (with_reducible repeat (first | apply Kd.R_alloc | apply Kd.R_drewN | apply Kd.R_drew)); exact HO123.out) hb)
          have n1_ := aM' (Kd.R_below (by (with_reducible repeat (first | apply Kd.R_alloc | apply Kd.R_drewN | apply Kd.R_drew)); exact HO126.out) hb)
          have n2_ := aM' (blk_below (g := gb119) (o := .cells #[.bool false, .string a0_1, .string a0_2, .int .u64 a0_3, .int .u64 a0_4] 36 (0, 0)) (by (with_reducible repeat (first | refine blk_drewN ?_ _ | refine blk_drew ?_ | refine blk_alloc ?_ _)); exact BK119.out) hb)
          have n3_ := aM' (below_step (by repeat (first | (with_reducible first | exact HB.out | apply below_alloc | apply pw_below_drewN | apply below_drew1 | refine below_set ?_ GE119.out) | exact HB.out)) hb)
          clear HO123
          clear HO126
          clear BK119
          clear HB
          have HO123 := n0_
          have HO126 := n1_
          have BK119 := n2_
          have HB := n3_
          clear n0_ n1_ n2_ n3_
          (try clear hb)
          (try clear hb2)
          (try clear hk)
          (try clear hi)
          refine hK.out _ _ ⟨(blk_cell BK119.out 0).trans rfl, (blk_cell BK119.out 1).trans rfl, (blk_cell BK119.out 2).trans rfl, (blk_cell BK119.out 3).trans rfl, (blk_cell BK119.out 4).trans rfl⟩ (fun hHeld => ?_)
          clear hK K
          refine norm_ (a' := ?_) ?_ ?_
          rotate_left
          ·
           show Act.put _ (some 33) _ = _
           simp only [Act.put, List.setIfInBounds_toArray, List.set_cons_zero, List.set_cons_succ, i64_w, i32_w]
           rfl
          refine one_ (i := 5) (N := some 25) #[true, true, true, true, true, true, true, true, false, true, false, true, true, true, false, false] rfl rfl (one_of HT_.out (by kernel_rfl)) (by decide) (fun K hK => ?_)
          have hcv31 := own_string (P := Tryd.prog) Tryd.underlying125 Tryd.underlying5 Tryd.underlying9 (Kd.own_of_R HO126.out)
          refine value_ (w1 := ?_) (v := ?_) (by rfl) rfl ?_ ?_
          rotate_left 2
          ·
           go_simp
           constructor
           ·
            rfl
           ·
            rfl
          clear hcv31
          refine hK.out _ _ ⟨(blk_cell BK119.out 0).trans rfl, (blk_cell BK119.out 1).trans rfl, (blk_cell BK119.out 2).trans rfl, (blk_cell BK119.out 3).trans rfl, (blk_cell BK119.out 4).trans rfl⟩ (fun hHeld => ?_)
          clear hK K
          refine norm_ (a' := ?_) ?_ ?_
          rotate_left
          ·
           show Act.put _ (some 25) _ = _
           simp only [Act.put, List.setIfInBounds_toArray, List.set_cons_zero, List.set_cons_succ, i64_w, i32_w]
           rfl
          refine pure_ (i := 8) (N := some 28) (v := ?_) (a' := ?_) #[true, true, true, true, true, true, true, true, true, true, false, true, true, true, false, false] rfl rfl (any_of HT_.out (by kernel_rfl)) (fun _ _ _ h => h) (Or.inl ⟨by rfl, ?_⟩) ?_ ?_
          rotate_left
          ·
           intro w'
           go_simp
           with_reducible rfl
          rotate_left
          ·
           simp only [Act.put, List.setIfInBounds_toArray, List.set_cons_zero, List.set_cons_succ, i64_w, i32_w]
           rfl
          refine pure_ (i := 10) (N := some 30) (v := ?_) (a' := ?_) #[true, true, true, true, true, true, true, true, true, true, true, true, true, true, false, false] rfl rfl (any_of HT_.out (by kernel_rfl)) (fun _ _ _ h => h) (Or.inl ⟨by rfl, ?_⟩) ?_ ?_
          rotate_left
          ·
           intro w'
           go_simp
           with_reducible rfl
          rotate_left
          ·
           simp only [Act.put, List.setIfInBounds_toArray, List.set_cons_zero, List.set_cons_succ, i64_w, i32_w]
           rfl
          exact norm_ (by simp only [putAll, Act.put, List.setIfInBounds_toArray, List.set_cons_zero, List.set_cons_succ]) (hCont (v125) _ ⟨hHeld, (by (with_reducible repeat (first | apply Kd.R_alloc | apply Kd.R_drewN | apply Kd.R_drew)); exact Kd.R_mono HO123.out (fun _ hk => hk.2)), (by (with_reducible repeat (first | apply Kd.R_alloc | apply Kd.R_drewN | apply Kd.R_drew)); exact Kd.R_mono HO126.out (fun _ hk => hk.2)), (by (with_reducible repeat (first | refine blk_drewN ?_ _ | refine blk_drew ?_ | refine blk_alloc ?_ _)); exact BK119.out), (by repeat (first | (with_reducible first | exact HB.out | apply below_alloc | apply pw_below_drewN | apply below_drew1 | refine below_set ?_ GE119.out) | exact HB.out))⟩)
        ·
         skip
         refine goes_ Tryd.func159 (by kernel_rfl) rfl #[.agg #[.int .u64 a0_3, .int .u64 a0_4]] (by rfl) rfl rfl (by (try simp only [List.map_toArray, List.map_cons, List.map_nil]); first | done | rfl | (simp only [List.length_drop, List.length_take]; rfl)) ?_
         with_reducible refine (paymasterref01_Bytes.calls k a0_3 a0_4 t127 _ A17.out).mono ?_
         rintro e w28 ⟨rfl, hb⟩
         refine ⟨_, rfl, ?_⟩
         have n0_ := aM' (Kd.R_below (by (with_reducible repeat (first | apply Kd.R_alloc | apply Kd.R_drewN | apply Kd.R_drew)); exact HO123.out) hb)
         have n1_ := aM' (blk_below (g := gb119) (o := .cells #[.bool false, .string a0_1, .string a0_2, .int .u64 a0_3, .int .u64 a0_4] 36 (0, 0)) (by (with_reducible repeat (first | refine blk_drewN ?_ _ | refine blk_drew ?_ | refine blk_alloc ?_ _)); exact BK119.out) hb)
         have n2_ := aM' (below_step (by repeat (first | (with_reducible first | exact HB.out | apply below_alloc | apply pw_below_drewN | apply below_drew1 | refine below_set ?_ GE119.out) | exact HB.out)) hb)
         clear HO123
         clear BK119
         clear HB
         have HO123 := n0_
         have BK119 := n1_
         have HB := n2_
         clear n0_ n1_ n2_
         (try clear hb)
         (try clear hb2)
         (try clear hk)
         (try clear hi)
         refine hK.out _ _ ⟨(blk_cell BK119.out 0).trans rfl, (blk_cell BK119.out 1).trans rfl, (blk_cell BK119.out 2).trans rfl, (blk_cell BK119.out 3).trans rfl, (blk_cell BK119.out 4).trans rfl⟩ (fun hHeld => ?_)
         clear hK K
         refine norm_ (a' := ?_) ?_ ?_
         rotate_left
         ·
          show Act.put _ (some 33) _ = _
          simp only [Act.put, List.setIfInBounds_toArray, List.set_cons_zero, List.set_cons_succ, i64_w, i32_w]
          rfl
         refine one_ (i := 4) (N := some 24) #[true, true, true, true, true, false, true, true, false, true, false, true, true, true, false, false] rfl rfl (one_of HT_.out (by kernel_rfl)) (by decide) (fun K hK => ?_)
         refine Kd.R_lit_step (Kd.int .u8) _ 5 ?hg (N := 24) ?hd (xs := ([0, ((a0_1.size : Int)) % 256] : List Int)) (inner := [.int .u8 0, .int .u8 (((a0_1.size : Int)) % 256)]) (ok := fun _ => True) (okp := fun _ => True) ?hr ?hp (fun _ hk => hk) trivial (Below.refl _ _) (Nat.le_refl _) (by simp) ?_; (case hd => rfl); (case hg => rfl); (case hr => first | (go_simp; done) | (go_simp; rfl)); (case hp => exact (Reps.one (show Kd.M (Kd.int .u8) _ _ _ 0 [.int .u8 0] from rfl) (Reps.one (show Kd.M (Kd.int .u8) _ _ _ (((a0_1.size : Int)) % 256) [.int .u8 (((a0_1.size : Int)) % 256)] from rfl) (Reps.none _ _))))
         intro v125 w29 ho30 hb hg_ hnew_
         clear hg_ hnew_
         (first | rw [← Ny124.out] at ho30 | (simp only [Int.reduceToNat] at ho30; rw [← Ny124.out] at ho30))
         have n0_ := aM' (Kd.R_elder' (by (with_reducible repeat (first | apply Kd.R_alloc | apply Kd.R_drewN | apply Kd.R_drew)); exact HO123.out) (Kd.R_base ho30) hb)
         have n1_ := aM' (Kd.R_lower (Kd.R_new' ho30 (Kd.R_lt (by (with_reducible repeat (first | apply Kd.R_alloc | apply Kd.R_drewN | apply Kd.R_drew)); exact HO123.out))) (below_size (by repeat (first | (with_reducible first | exact HB.out | apply below_alloc | apply pw_below_drewN | apply below_drew1 | refine below_set ?_ GE119.out) | exact HB.out))))
         have n2_ := aM' (blk_below (g := gb119) (o := .cells #[.bool false, .string a0_1, .string a0_2, .int .u64 a0_3, .int .u64 a0_4] 36 (0, 0)) (by (with_reducible repeat (first | refine blk_drewN ?_ _ | refine blk_drew ?_ | refine blk_alloc ?_ _)); exact BK119.out) hb)
         have n3_ := aM' (below_step (by repeat (first | (with_reducible first | exact HB.out | apply below_alloc | apply pw_below_drewN | apply below_drew1 | refine below_set ?_ GE119.out) | exact HB.out)) hb)
         clear HO123
         clear BK119
         clear HB
         have HO123 := n0_
         have HO126 := n1_
         have BK119 := n2_
         have HB := n3_
         clear n0_ n1_ n2_ n3_
         clear hb ho30
         refine hK.out _ _ ⟨(blk_cell BK119.out 0).trans rfl, (blk_cell BK119.out 1).trans rfl, (blk_cell BK119.out 2).trans rfl, (blk_cell BK119.out 3).trans rfl, (blk_cell BK119.out 4).trans rfl⟩ (fun hHeld => ?_)
         clear hK K
         refine norm_ (a' := ?_) ?_ ?_
         rotate_left
         ·
          show Act.put _ (some 24) _ = _
          simp only [Act.put, List.setIfInBounds_toArray, List.set_cons_zero, List.set_cons_succ, i64_w, i32_w]
          rfl
         refine one_ (i := 5) (N := some 25) #[true, true, true, true, true, true, true, true, false, true, false, true, true, true, false, false] rfl rfl (one_of HT_.out (by kernel_rfl)) (by decide) (fun K hK => ?_)
         have hcv31 := own_string (P := Tryd.prog) Tryd.underlying125 Tryd.underlying5 Tryd.underlying9 (Kd.own_of_R HO126.out)
         refine value_ (w1 := ?_) (v := ?_) (by rfl) rfl ?_ ?_
         rotate_left 2
         ·
          go_simp
          constructor
          ·
           rfl
          ·
           rfl
         clear hcv31
         refine hK.out _ _ ⟨(blk_cell BK119.out 0).trans rfl, (blk_cell BK119.out 1).trans rfl, (blk_cell BK119.out 2).trans rfl, (blk_cell BK119.out 3).trans rfl, (blk_cell BK119.out 4).trans rfl⟩ (fun hHeld => ?_)
         clear hK K
         refine norm_ (a' := ?_) ?_ ?_
         rotate_left
         ·
          show Act.put _ (some 25) _ = _
          simp only [Act.put, List.setIfInBounds_toArray, List.set_cons_zero, List.set_cons_succ, i64_w, i32_w]
          rfl
         refine pure_ (i := 8) (N := some 28) (v := ?_) (a' := ?_) #[true, true, true, true, true, true, true, true, true, true, false, true, true, true, false, false] rfl rfl (any_of HT_.out (by kernel_rfl)) (fun _ _ _ h => h) (Or.inl ⟨by rfl, ?_⟩) ?_ ?_
         rotate_left
         ·
          intro w'
          go_simp
          with_reducible rfl
         rotate_left
         ·
          simp only [Act.put, List.setIfInBounds_toArray, List.set_cons_zero, List.set_cons_succ, i64_w, i32_w]
          rfl
         refine pure_ (i := 10) (N := some 30) (v := ?_) (a' := ?_) #[true, true, true, true, true, true, true, true, true, true, true, true, true, true, false, false] rfl rfl (any_of HT_.out (by kernel_rfl)) (fun _ _ _ h => h) (Or.inl ⟨by rfl, ?_⟩) ?_ ?_
         rotate_left
         ·
          intro w'
          go_simp
          with_reducible rfl
         rotate_left
         ·
          simp only [Act.put, List.setIfInBounds_toArray, List.set_cons_zero, List.set_cons_succ, i64_w, i32_w]
          rfl
         exact norm_ (by simp only [putAll, Act.put, List.setIfInBounds_toArray, List.set_cons_zero, List.set_cons_succ]) (hCont (v125) _ ⟨hHeld, (by (with_reducible repeat (first | apply Kd.R_alloc | apply Kd.R_drewN | apply Kd.R_drew)); exact Kd.R_mono HO123.out (fun _ hk => hk.2)), (by (with_reducible repeat (first | apply Kd.R_alloc | apply Kd.R_drewN | apply Kd.R_drew)); exact Kd.R_mono HO126.out (fun _ hk => hk.2)), (by (with_reducible repeat (first | refine blk_drewN ?_ _ | refine blk_drew ?_ | refine blk_alloc ?_ _)); exact BK119.out), (by repeat (first | (with_reducible first | exact HB.out | apply below_alloc | apply pw_below_drewN | apply below_drew1 | refine below_set ?_ GE119.out) | exact HB.out))⟩)
       rintro v125 w32 ⟨hS_, h0_, h1_, h2_, h3_⟩
       have n0_ : Aside0 (Kd.R (Kd.int .u8) 5 w32 w.heap.size (fun k_ => some k_ ≠ (v125 : Value).ownBlock) v122 y121) := ⟨h0_⟩
       have n1_ : Aside0 (Kd.R (Kd.int .u8) 5 w32 w.heap.size (fun k_ => some k_ ≠ (v122 : Value).ownBlock) v125 y124) := ⟨h1_⟩
       have n2_ : Aside0 (w32.heap[gb119]? = some (.cells #[.bool false, .string a0_1, .string a0_2, .int .u64 a0_3, .int .u64 a0_4] 36 (0, 0))) := ⟨h2_⟩
       have n3_ : Aside0 (Below w.heap.size w w32) := ⟨h3_⟩
       clear HO123
       clear BK119
       clear HB
       clear h0_ h1_ h2_ h3_
       have HO123 := n0_
       have HO126 := n1_
       have BK119 := n2_
       have HB := n3_
       clear n0_ n1_ n2_ n3_
       have hHeld : w32.cell? ⟨gb119, 0, none⟩ = some (.bool false) ∧ w32.cell? ⟨gb119, 1, none⟩ = some (.string a0_1) ∧ w32.cell? ⟨gb119, 2, none⟩ = some (.string a0_2) ∧ w32.cell? ⟨gb119, 3, none⟩ = some (.int .u64 a0_3) ∧ w32.cell? ⟨gb119, 4, none⟩ = some (.int .u64 a0_4) := hS_
       refine norm_ (a' := ?_) ?_ ?_
       rotate_left
       ·
        simp only [putAll, Act.put, List.setIfInBounds_toArray, List.set_cons_zero, List.set_cons_succ]
        rfl
       refine pure_ (i := 14) (N := some 34) (v := ?_) (a' := ?_) #[true, true, true, true, true, true, true, true, true, true, true, true, true, true, true, false] rfl rfl (any_of HT_.out (by kernel_rfl)) (fun _ _ _ h => h) (Or.inl ⟨by rfl, ?_⟩) ?_ ?_
       rotate_left
       ·
        intro w'
        go_simp
        with_reducible rfl
       rotate_left
       ·
        simp only [Act.put, List.setIfInBounds_toArray, List.set_cons_zero, List.set_cons_succ, i64_w, i32_w]
        rfl
       refine pure_ (i := 15) (N := some 2) (v := ?_) (a' := ?_) #[true, true, true, true, true, true, true, true, true, true, true, true, true, true, true, true] rfl rfl (any_of HT_.out (by kernel_rfl)) (fun _ _ _ h => h) (Or.inl ⟨by rfl, ?_⟩) ?_ ?_
       rotate_left
       ·
        intro w'
        go_simp
        with_reducible rfl
       rotate_left
       ·
        simp only [Act.put, List.setIfInBounds_toArray, List.set_cons_zero, List.set_cons_succ, i64_w, i32_w]
        rfl
       refine done_ (done_of HT_.out (by kernel_rfl)) ?_
       try go_wp2
       go_ret
       exact ⟨by first | rfl | (simp [errW_none, errW_some] <;> rfl) | (simp [*, errW_none, errW_some] <;> rfl), by repeat (first | (with_reducible first | exact HB.out | apply below_alloc | apply pw_below_drewN | apply below_drew1 | refine below_set ?_ GE119.out) | exact HB.out)⟩
      ·
       rw [if_neg c18] at H
       exact absurd H (by simp)
     ·
      rw [if_neg c16] at H
      exact absurd H (by simp)
    ·
     rw [if_neg c15] at H
     exact absurd H (by simp)
  ·
   rw [if_neg c4] at H
   exact absurd H (by simp)
 ·
  replace c3 := Bool.eq_false_iff.mpr c3
  subst c3
  have H1 : (some (⟨#[]⟩ : ByteArray)) = some r := by rw [if_neg (show ¬ (false = true) by decide)] at H; exact H
  clear H
  have H := H1
  clear H1
  obtain rfl := Option.some.inj H
  go_enter Tryd.func135, Tryd.ntmps135
  go_wp2_with (first | ((with_reducible refine gate_dst (N := 1) rfl ?_); refine box_event ?hg (N := 1) ?hd (cs := #[.bool a0_0, .string a0_1, .string a0_2, .int .u64 a0_3, .int .u64 a0_4]) (t := 36) ?hr ?_; (case hd => rfl); (case hg => rfl); (case hr => first | (go_simp; done) | (go_simp; rfl)); intro gb119 hg w33 hbox hb; have n0_ := aM' (below_step (by repeat (first | (with_reducible first | exact HB.out | apply below_alloc | apply pw_below_drewN | apply below_drew1) | exact HB.out)) hb); have n1_ := aM' (hbox); have n2_ := aM' ((by rw [hg]; exact (below_size (by repeat (first | (with_reducible first | exact HB.out | apply below_alloc | apply pw_below_drewN | apply below_drew1) | exact HB.out))) : w.heap.size ≤ gb119)); have n3_ := aM' ((by rw [hg]; exact (below_size (by repeat (first | (with_reducible first | exact HB.out | apply below_alloc | apply pw_below_drewN | apply below_drew1) | exact HB.out))) : w.heap.size ≤ gb119)); clear HB; have HB := n0_; have BK119 := n1_; have GW119 := n2_; have GE119 := n3_; clear n0_ n1_ n2_ n3_; clear hb hbox hg; have hcz34_0 : w33.cell? ⟨gb119, 0, none⟩ = some (.bool a0_0) := (blk_cell BK119.out 0).trans rfl; have hcz34_1 : w33.cell? ⟨gb119, 1, none⟩ = some (.string a0_1) := (blk_cell BK119.out 1).trans rfl; have hcz34_2 : w33.cell? ⟨gb119, 2, none⟩ = some (.string a0_2) := (blk_cell BK119.out 2).trans rfl; have hcz34_3 : w33.cell? ⟨gb119, 3, none⟩ = some (.int .u64 a0_3) := (blk_cell BK119.out 3).trans rfl; have hcz34_4 : w33.cell? ⟨gb119, 4, none⟩ = some (.int .u64 a0_4) := (blk_cell BK119.out 4).trans rfl; have hfz34_0 := blk_frozen BK119.out 0; have hfz34_1 := blk_frozen BK119.out 1; have hfz34_2 := blk_frozen BK119.out 2; have hfz34_3 := blk_frozen BK119.out 3; have hfz34_4 := blk_frozen BK119.out 4) | ((with_reducible refine gate_callee (f := 60) rfl ?_); refine goesL_ (some 5) rfl rfl Tryd.func60 (by kernel_rfl) rfl #[.agg #[.bool a0_0, .string a0_1, .string a0_2, .int .u64 a0_3, .int .u64 a0_4]] rfl (by (try simp only [List.map_toArray, List.map_cons, List.map_nil]); first | done | rfl | (simp only [List.length_drop, List.length_take]; rfl)) ?_; (with_reducible refine (paymasterref07_MayLeaf.calls k a0_0 a0_1 a0_2 a0_3 a0_4 false _ A2.out).mono ?_); rintro e w35 ⟨rfl, hb⟩; refine ⟨_, rfl, ?_⟩; have n0_ := aM' (blk_below (g := gb119) (o := .cells #[.bool a0_0, .string a0_1, .string a0_2, .int .u64 a0_3, .int .u64 a0_4] 36 (0, 0)) (by (with_reducible repeat (first | refine blk_drewN ?_ _ | refine blk_drew ?_ | refine blk_alloc ?_ _)); exact BK119.out) hb); have n1_ := aM' (below_step (by repeat (first | (with_reducible first | exact HB.out | apply below_alloc | apply pw_below_drewN | apply below_drew1 | refine below_set ?_ GE119.out) | exact HB.out)) hb); clear BK119; clear HB; have BK119 := n0_; have HB := n1_; clear n0_ n1_; (try clear hb); (try clear hb2); (try clear hk); (try clear hi)))
  go_ret
  exact ⟨by first | rfl | (simp [errW_none, errW_some] <;> rfl) | (simp [*, errW_none, errW_some] <;> rfl), by repeat (first | (with_reducible first | exact HB.out | apply below_alloc | apply pw_below_drewN | apply below_drew1 | refine below_set ?_ GE119.out) | exact HB.out)⟩
def paymasterref07_LeafNode.j0 : Nat → Int → Bool → Bool → ByteArray → ByteArray → Int → Int → Option (ByteArray × Int × Int)
 | 0, _, _, _, _, _, _, _ => none
 | k + 1, x0, x12, x129000, x129001, x129002, x129003, x129004 => if x12 = true then (some ((⟨#[]⟩ : ByteArray), 0, 0)) else ((paymasterref07_LeafText.f k x129000 x129001 x129002 x129003 x129004).bind fun t132 => ((paymasterref07_Digest.f x0 t132).bind fun t133 => (some (t133, x129003, x129004))))
def paymasterref07_LeafNode.f (k : Nat) (a0 : Int) (a1_0 : Bool) (a1_1 : ByteArray) (a1_2 : ByteArray) (a1_3 : Int) (a1_4 : Int) : Option (ByteArray × Int × Int) := (paymasterref07_MayWidth.f a0).bind fun t130 => (if t130 = true then ((paymasterref07_MayLeaf.f k a1_0 a1_1 a1_2 a1_3 a1_4).bind fun t131 => (paymasterref07_LeafNode.j0 k a0 (!t131) a1_0 a1_1 a1_2 a1_3 a1_4)) else (paymasterref07_LeafNode.j0 k a0 true a1_0 a1_1 a1_2 a1_3 a1_4))
def paymasterref07_LeafNode.T3 : Bool × List (List Nat × List Nat) := (true, [([], []), ([], []), ([1], [1]), ([0, 2, 2], [0, 2]), ([], []), ([4], [4]), ([3, 5], [3, 5]), ([6, 3, 0, 1, 2, 3, 4, 5, 6], [6])])
def paymasterref07_LeafNode.B3 : List Nat := [0, 0, 2, 7, 0, 16, 63, 127]
theorem paymasterref07_LeafNode.tab3 : rtab .any (opsOf Tryd.f99 3) = paymasterref07_LeafNode.T3 := by kernel_rfl
theorem paymasterref07_LeafNode.bits3 : waitsOk paymasterref07_LeafNode.T3.2 paymasterref07_LeafNode.B3 = true := by kernel_rfl
set_option maxHeartbeats 8000000 in
set_option maxRecDepth 100000 in
theorem paymasterref07_LeafNode.calls (k : Nat) (a0 : Int) (a1_0 : Bool) (a1_1 : ByteArray) (a1_2 : ByteArray) (a1_3 : Int) (a1_4 : Int) (r1 : ByteArray) (r2 : Int) (r3 : Int) (w : World) (h : paymasterref07_LeafNode.f k a0 a1_0 a1_1 a1_2 a1_3 a1_4 = some (r1, r2, r3)) :
  Calls Tryd.prog 99 #[.int .i64 a0, .agg #[.bool a1_0, .string a1_1, .string a1_2, .int .u64 a1_3, .int .u64 a1_4]] w fun e w' => e = .returned (.agg #[.string r1, .int .u64 r2, .int .u64 r3]) ∧ Below w.heap.size w w' := by
 have hu36 := Tryd.underlying36
 have hu46 := Tryd.underlying46
 have hu34 := Tryd.underlying34
 have HB := aM' (Below.refl w.heap.size w)
 have H : ((paymasterref07_MayWidth.f a0).bind fun t130 => (if t130 = true then ((paymasterref07_MayLeaf.f k a1_0 a1_1 a1_2 a1_3 a1_4).bind fun t131 => (paymasterref07_LeafNode.j0 k a0 (!t131) a1_0 a1_1 a1_2 a1_3 a1_4)) else (paymasterref07_LeafNode.j0 k a0 true a1_0 a1_1 a1_2 a1_3 a1_4))) = some (r1, r2, r3) := h
 clear h
 have HC3 := aM' H
 clear H
 go_enter Tryd.func99, Tryd.ntmps99
 go_upto_region 1 with (first | ((with_reducible refine gate_dst (N := 3) rfl ?_); refine box_event ?hg (N := 3) ?hd (cs := #[.bool a1_0, .string a1_1, .string a1_2, .int .u64 a1_3, .int .u64 a1_4]) (t := 36) ?hr ?_; (case hd => rfl); (case hg => rfl); (case hr => first | (go_simp; done) | (go_simp; rfl)); intro gb128 hg w4 hbox hb; have n0_ := aM' (below_step (by repeat (first | (with_reducible first | exact HB.out | apply below_alloc | apply pw_below_drewN | apply below_drew1) | exact HB.out)) hb); have n1_ := aM' (hbox); have n2_ := aM' ((by rw [hg]; exact (below_size (by repeat (first | (with_reducible first | exact HB.out | apply below_alloc | apply pw_below_drewN | apply below_drew1) | exact HB.out))) : w.heap.size ≤ gb128)); have n3_ := aM' ((by rw [hg]; exact (below_size (by repeat (first | (with_reducible first | exact HB.out | apply below_alloc | apply pw_below_drewN | apply below_drew1) | exact HB.out))) : w.heap.size ≤ gb128)); clear HB; have HB := n0_; have BK128 := n1_; have GW128 := n2_; have GE128 := n3_; clear n0_ n1_ n2_ n3_; clear hb hbox hg) | ((with_reducible refine gate_dst (N := 4) rfl ?_); refine box_event ?hg (N := 4) ?hd (cs := #[.string (⟨#[]⟩ : ByteArray), .int .u64 0, .int .u64 0]) (t := 46) ?hr ?_; (case hd => rfl); (case hg => rfl); (case hr => first | (go_simp; done) | (go_simp; rfl)); intro gb129 hg w5 hbox hb; have n0_ := aM' (blk_below (g := gb128) (o := .cells #[.bool a1_0, .string a1_1, .string a1_2, .int .u64 a1_3, .int .u64 a1_4] 36 (0, 0)) (by (with_reducible repeat (first | refine blk_drewN ?_ _ | refine blk_drew ?_ | refine blk_alloc ?_ _)); exact BK128.out) hb); have n1_ := aM' (below_step (by repeat (first | (with_reducible first | exact HB.out | apply below_alloc | apply pw_below_drewN | apply below_drew1 | refine below_set ?_ GE128.out) | exact HB.out)) hb); have n2_ := aM' (hbox); have n3_ := aM' ((by rw [hg]; exact (below_size (by repeat (first | (with_reducible first | exact HB.out | apply below_alloc | apply pw_below_drewN | apply below_drew1 | refine below_set ?_ GE128.out) | exact HB.out))) : w.heap.size ≤ gb129)); have n4_ := aM' ((by rw [hg]; exact (below_size (by repeat (first | (with_reducible first | exact HB.out | apply below_alloc | apply pw_below_drewN | apply below_drew1 | refine below_set ?_ GE128.out) | exact HB.out))) : w.heap.size ≤ gb129)); have n5_ := aM' ((by rw [hg]; exact Nat.ne_of_lt (blk_lt (g := gb128) (o := .cells #[.bool a1_0, .string a1_1, .string a1_2, .int .u64 a1_3, .int .u64 a1_4] 36 (0, 0)) (by (with_reducible repeat (first | refine blk_drewN ?_ _ | refine blk_drew ?_ | refine blk_alloc ?_ _)); exact BK128.out)) : gb128 ≠ gb129)); have n6_ := aM' ((by rw [hg]; exact Nat.ne_of_gt (blk_lt (g := gb128) (o := .cells #[.bool a1_0, .string a1_1, .string a1_2, .int .u64 a1_3, .int .u64 a1_4] 36 (0, 0)) (by (with_reducible repeat (first | refine blk_drewN ?_ _ | refine blk_drew ?_ | refine blk_alloc ?_ _)); exact BK128.out)) : gb129 ≠ gb128)); clear BK128; clear HB; have BK128 := n0_; have HB := n1_; have BK129 := n2_; have GW129 := n3_; have GE129 := n4_; have NB128_129 := n5_; have NB129_128 := n6_; clear n0_ n1_ n2_ n3_ n4_ n5_ n6_; clear hb hbox hg))
 (try simp only [Act.put, List.setIfInBounds_toArray, List.set_cons_zero, List.set_cons_succ])
 go_cut [12] (fun v12 wc => ∃ (kq : Nat) (x12_2 : Bool), v12 = .bool x12_2 ∧ Aside0 (paymasterref07_LeafNode.j0 kq a0 x12_2 a1_0 a1_1 a1_2 a1_3 a1_4 = some (r1, r2, r3)) ∧ Aside0 (kq ≤ k) ∧ Aside0 (wc.heap[gb128]? = some (.cells #[.bool a1_0, .string a1_1, .string a1_2, .int .u64 a1_3, .int .u64 a1_4] 36 (0, 0))) ∧ Aside0 (wc.heap[gb129]? = some (.cells #[.string (⟨#[]⟩ : ByteArray), .int .u64 0, .int .u64 0] 46 (0, 0))) ∧ Aside0 (Below w.heap.size w wc))
 case first =>
  have H := HC3.out
  clear HC3
  replace H := Option.bind_eq_some_iff.mp H
  obtain ⟨t130, A60, H⟩ := H
  replace H : (if t130 = true then ((paymasterref07_MayLeaf.f k a1_0 a1_1 a1_2 a1_3 a1_4).bind fun t131 => (paymasterref07_LeafNode.j0 k a0 (!t131) a1_0 a1_1 a1_2 a1_3 a1_4)) else (paymasterref07_LeafNode.j0 k a0 true a1_0 a1_1 a1_2 a1_3 a1_4)) = some (r1, r2, r3) := H
  have A6 := aM' A60
  clear A60
  by_cases c7 : t130 = true
  ·
   subst c7
   have H1 : ((paymasterref07_MayLeaf.f k a1_0 a1_1 a1_2 a1_3 a1_4).bind fun t131 => (paymasterref07_LeafNode.j0 k a0 (!t131) a1_0 a1_1 a1_2 a1_3 a1_4)) = some (r1, r2, r3) := by rw [if_pos rfl] at H; exact H
   clear H
   have H := H1
   clear H1
   replace H := Option.bind_eq_some_iff.mp H
   obtain ⟨t131, A80, H⟩ := H
   replace H : (paymasterref07_LeafNode.j0 k a0 (!t131) a1_0 a1_1 a1_2 a1_3 a1_4) = some (r1, r2, r3) := H
   have A8 := aM' A80
   clear A80
   have H' := aM' H
   clear H
   go_wp2_with (first | ((with_reducible refine gate_callee (f := 134) rfl ?_); refine goesL_ (some 6) rfl rfl Tryd.func134 (by kernel_rfl) rfl #[.int .i64 a0] rfl (by (try simp only [List.map_toArray, List.map_cons, List.map_nil]); first | done | rfl | (simp only [List.length_drop, List.length_take]; rfl)) ?_; (with_reducible refine (paymasterref07_MayWidth.calls a0 true _ A6.out).mono ?_); rintro e w' ⟨rfl, ⟨nd, rfl⟩⟩; refine ⟨_, rfl, ?_⟩; have hnb9 := NB128_129.out; have hnc9 := NB129_128.out; have hcz10_0 : w5.cell? ⟨gb128, 0, none⟩ = some (.bool a1_0) := (blk_cell BK128.out 0).trans rfl; have hcz10_1 : w5.cell? ⟨gb128, 1, none⟩ = some (.string a1_1) := (blk_cell BK128.out 1).trans rfl; have hcz10_2 : w5.cell? ⟨gb128, 2, none⟩ = some (.string a1_2) := (blk_cell BK128.out 2).trans rfl; have hcz10_3 : w5.cell? ⟨gb128, 3, none⟩ = some (.int .u64 a1_3) := (blk_cell BK128.out 3).trans rfl; have hcz10_4 : w5.cell? ⟨gb128, 4, none⟩ = some (.int .u64 a1_4) := (blk_cell BK128.out 4).trans rfl; have hfz10_0 := blk_frozen BK128.out 0; have hfz10_1 := blk_frozen BK128.out 1; have hfz10_2 := blk_frozen BK128.out 2; have hfz10_3 := blk_frozen BK128.out 3; have hfz10_4 := blk_frozen BK128.out 4) | (go_at_call 60; (with_reducible refine (paymasterref07_MayLeaf.calls k a1_0 a1_1 a1_2 a1_3 a1_4 t131 _ A8.out).mono ?_); rintro e w11 ⟨rfl, hb⟩; have n0_ := aM' (blk_below (g := gb128) (o := .cells #[.bool a1_0, .string a1_1, .string a1_2, .int .u64 a1_3, .int .u64 a1_4] 36 (0, 0)) (by (with_reducible repeat (first | refine blk_drewN ?_ _ | refine blk_drew ?_ | refine blk_alloc ?_ _)); exact BK128.out) hb); have n1_ := aM' (blk_below (g := gb129) (o := .cells #[.string (⟨#[]⟩ : ByteArray), .int .u64 0, .int .u64 0] 46 (0, 0)) (by (with_reducible repeat (first | refine blk_drewN ?_ _ | refine blk_drew ?_ | refine blk_alloc ?_ _)); exact BK129.out) hb); have n2_ := aM' (below_step (by repeat (first | (with_reducible first | exact HB.out | apply below_alloc | apply pw_below_drewN | apply below_drew1 | refine below_set ?_ GE128.out | refine below_set ?_ GE129.out) | exact HB.out)) hb); clear BK128; clear BK129; clear HB; have BK128 := n0_; have BK129 := n1_; have HB := n2_; clear n0_ n1_ n2_; (try clear hb); (try clear hb2); (try clear hk); (try clear hi)))
   go_meet
   case rel => exact ⟨_, (!t131), (by first | rfl | (simp; done) | (simp [*]; done)), H', ⟨by first | omega | exact Nat.le_refl _⟩, ⟨by (with_reducible repeat (first | refine blk_drewN ?_ _ | refine blk_drew ?_ | refine blk_alloc ?_ _)); exact BK128.out⟩, ⟨by (with_reducible repeat (first | refine blk_drewN ?_ _ | refine blk_drew ?_ | refine blk_alloc ?_ _)); exact BK129.out⟩, ⟨by repeat (first | (with_reducible first | exact HB.out | apply below_alloc | apply pw_below_drewN | apply below_drew1 | refine below_set ?_ GE128.out | refine below_set ?_ GE129.out) | exact HB.out)⟩⟩
  ·
   replace c7 := Bool.eq_false_iff.mpr c7
   subst c7
   have H1 : (paymasterref07_LeafNode.j0 k a0 true a1_0 a1_1 a1_2 a1_3 a1_4) = some (r1, r2, r3) := by rw [if_neg (show ¬ (false = true) by decide)] at H; exact H
   clear H
   have H := H1
   clear H1
   have H' := aM' H
   clear H
   go_wp2_with (first | ((with_reducible refine gate_callee (f := 134) rfl ?_); refine goesL_ (some 6) rfl rfl Tryd.func134 (by kernel_rfl) rfl #[.int .i64 a0] rfl (by (try simp only [List.map_toArray, List.map_cons, List.map_nil]); first | done | rfl | (simp only [List.length_drop, List.length_take]; rfl)) ?_; (with_reducible refine (paymasterref07_MayWidth.calls a0 false _ A6.out).mono ?_); rintro e w' ⟨rfl, ⟨nd, rfl⟩⟩; refine ⟨_, rfl, ?_⟩))
   go_meet
   case rel => exact ⟨_, (true), (by first | rfl | (simp; done) | (simp [*]; done)), H', ⟨by first | omega | exact Nat.le_refl _⟩, ⟨by (with_reducible repeat (first | refine blk_drewN ?_ _ | refine blk_drew ?_ | refine blk_alloc ?_ _)); exact BK128.out⟩, ⟨by (with_reducible repeat (first | refine blk_drewN ?_ _ | refine blk_drew ?_ | refine blk_alloc ?_ _)); exact BK129.out⟩, ⟨by repeat (first | (with_reducible first | exact HB.out | apply below_alloc | apply pw_below_drewN | apply below_drew1 | refine below_set ?_ GE128.out | refine below_set ?_ GE129.out) | exact HB.out)⟩⟩
 case rest =>
  clear HC3
  try clear c1
  try clear p2
  try clear c7
  try clear c9
  try clear hcz10_0
  try clear hcz10_1
  try clear hcz10_2
  try clear hcz10_3
  try clear hcz10_4
  try clear hfz10_0
  try clear hfz10_1
  try clear hfz10_2
  try clear hfz10_3
  try clear hfz10_4
  obtain ⟨kq, x12_2, rfl, HA, HJ2, BK128, BK129, HB⟩ := hcut
  cases kq with
  | zero => exact absurd HA.out (by simp [paymasterref07_LeafNode.j0])
  | succ kj2 =>
   have H := HA.out
   clear HA
   simp only [paymasterref07_LeafNode.j0] at H
   by_cases c12 : x12_2 = true
   ·
    subst c12
    have H1 : (some ((⟨#[]⟩ : ByteArray), 0, 0)) = some (r1, r2, r3) := by rw [if_pos rfl] at H; exact H
    clear H
    have H := H1
    clear H1
    simp only [Option.some.injEq, Prod.mk.injEq] at H
    obtain ⟨rfl, rfl, rfl⟩ := H
    have hnb13 := NB129_128.out
    have hnc13 := NB128_129.out
    have hcz14_0 : wc.cell? ⟨gb129, 0, none⟩ = some (.string (⟨#[]⟩ : ByteArray)) := (blk_cell BK129.out 0).trans rfl
    have hcz14_1 : wc.cell? ⟨gb129, 1, none⟩ = some (.int .u64 0) := (blk_cell BK129.out 1).trans rfl
    have hcz14_2 : wc.cell? ⟨gb129, 2, none⟩ = some (.int .u64 0) := (blk_cell BK129.out 2).trans rfl
    have hfz14_0 := blk_frozen BK129.out 0
    have hfz14_1 := blk_frozen BK129.out 1
    have hfz14_2 := blk_frozen BK129.out 2
    go_wp2
    refine bodyPost_ret (results_cell_row rfl _ _ gb129 46 #[.string (⟨#[]⟩ : ByteArray), .int .u64 0, .int .u64 0] (0, 0) _ rfl (by (with_reducible repeat (first | refine blk_drewN ?_ _ | refine blk_drew ?_ | refine blk_alloc ?_ _)); refine blk_put (cs := #[.string (⟨#[]⟩ : ByteArray), .int .u64 0, .int .u64 0]) ?_ 2 _ rfl; (with_reducible repeat (first | refine blk_drewN ?_ _ | refine blk_drew ?_ | refine blk_alloc ?_ _)); refine blk_put (cs := #[.string (⟨#[]⟩ : ByteArray), .int .u64 0, .int .u64 0]) ?_ 1 _ rfl; (with_reducible repeat (first | refine blk_drewN ?_ _ | refine blk_drew ?_ | refine blk_alloc ?_ _)); refine blk_put (cs := #[.string (⟨#[]⟩ : ByteArray), .int .u64 0, .int .u64 0]) ?_ 0 _ rfl; (with_reducible repeat (first | refine blk_drewN ?_ _ | refine blk_drew ?_ | refine blk_alloc ?_ _)); exact BK129.out) Tryd.underlying46 rfl (by kernel_rfl)) rfl ?_
    exact ⟨by first | rfl | (simp [errW_none, errW_some] <;> rfl) | (simp [*, errW_none, errW_some] <;> rfl), by repeat (first | (with_reducible first | exact HB.out | apply below_alloc | apply pw_below_drewN | apply below_drew1 | refine below_set ?_ GE128.out | refine below_set ?_ GE129.out) | exact HB.out)⟩
   ·
    replace c12 := Bool.eq_false_iff.mpr c12
    subst c12
    have H1 : ((paymasterref07_LeafText.f kj2 a1_0 a1_1 a1_2 a1_3 a1_4).bind fun t132 => ((paymasterref07_Digest.f a0 t132).bind fun t133 => (some (t133, a1_3, a1_4)))) = some (r1, r2, r3) := by rw [if_neg (show ¬ (false = true) by decide)] at H; exact H
    clear H
    have H := H1
    clear H1
    replace H := Option.bind_eq_some_iff.mp H
    obtain ⟨t132, A150, H⟩ := H
    replace H : ((paymasterref07_Digest.f a0 t132).bind fun t133 => (some (t133, a1_3, a1_4))) = some (r1, r2, r3) := H
    have A15 := aM' A150
    clear A150
    replace H := Option.bind_eq_some_iff.mp H
    obtain ⟨t133, A160, H⟩ := H
    replace H : (some (t133, a1_3, a1_4)) = some (r1, r2, r3) := H
    have A16 := aM' A160
    clear A160
    simp only [Option.some.injEq, Prod.mk.injEq] at H
    obtain ⟨rfl, rfl, rfl⟩ := H
    try go_wp2
    have n0_ := aM' (blk_drew BK128.out)
    have n1_ := aM' (blk_drew BK129.out)
    have n2_ := aM' (below_drew1 HB.out)
    clear BK128
    clear BK129
    clear HB
    have BK128 := n0_
    have BK129 := n1_
    have HB := n2_
    clear n0_ n1_ n2_
    refine start_ (n := 8) (S := fun w' => w'.cell? ⟨gb128, 0, none⟩ = some (.bool a1_0) ∧ w'.cell? ⟨gb128, 1, none⟩ = some (.string a1_1) ∧ w'.cell? ⟨gb128, 2, none⟩ = some (.string a1_2) ∧ w'.cell? ⟨gb128, 3, none⟩ = some (.int .u64 a1_3) ∧ w'.cell? ⟨gb128, 4, none⟩ = some (.int .u64 a1_4)) (ds := []) #[false, false, false, false, false, false, false, false] (by kernel_rfl) rfl rfl ⟨(blk_cell BK128.out 0).trans rfl, (blk_cell BK128.out 1).trans rfl, (blk_cell BK128.out 2).trans rfl, (blk_cell BK128.out 3).trans rfl, (blk_cell BK128.out 4).trans rfl⟩ (fun hHeld => ?_); refine with_tabW paymasterref07_LeafNode.tab3 paymasterref07_LeafNode.bits3 (fun HT_ HW_ => ?_)
    generalize wc.drew = w17 at BK128 BK129 HB hHeld ⊢
    refine pure_ (i := 0) (N := some 14) (v := ?_) (a' := ?_) #[true, false, false, false, false, false, false, false] rfl rfl (any_of HT_.out (by kernel_rfl)) (fun _ _ _ h => h) (Or.inl ⟨by rfl, ?_⟩) ?_ ?_
    rotate_left
    ·
     intro w'
     go_simp
     with_reducible rfl
    rotate_left
    ·
     simp only [Act.put, List.setIfInBounds_toArray, List.set_cons_zero, List.set_cons_succ, i64_w, i32_w]
     rfl
    refine pure_ (i := 4) (N := some 18) (v := ?_) (a' := ?_) #[true, false, false, false, true, false, false, false] rfl rfl (any_of HT_.out (by kernel_rfl)) (fun _ _ _ h => h) (Or.inl ⟨by rfl, ?_⟩) ?_ ?_
    rotate_left
    ·
     intro w'
     go_simp
     with_reducible rfl
    rotate_left
    ·
     simp only [Act.put, List.setIfInBounds_toArray, List.set_cons_zero, List.set_cons_succ, i64_w, i32_w]
     rfl
    refine take_ (i := 1) (N := some 15) (v := ?_) (a' := ?_) #[true, true, false, false, true, false, false, false] rfl rfl (take_ofW HT_.out HW_.out (by kernel_rfl)) (fun _ _ _ h => h) (Or.inl ⟨by rfl, ?_⟩) hHeld ?_ ?_
    rotate_left
    ·
     rintro w' ⟨s0, s1, s2, s3, s4⟩
     go_simp
     with_reducible rfl
    rotate_left
    ·
     simp only [Act.put, List.setIfInBounds_toArray, List.set_cons_zero, List.set_cons_succ, i64_w, i32_w]
     rfl
    refine take_ (i := 5) (N := some 19) (v := ?_) (a' := ?_) #[true, true, false, false, true, true, false, false] rfl rfl (take_ofW HT_.out HW_.out (by kernel_rfl)) (fun _ _ _ h => h) (Or.inl ⟨by rfl, ?_⟩) hHeld ?_ ?_
    rotate_left
    ·
     rintro w' ⟨s0, s1, s2, s3, s4⟩
     go_simp
     with_reducible rfl
    rotate_left
    ·
     simp only [Act.put, List.setIfInBounds_toArray, List.set_cons_zero, List.set_cons_succ, i64_w, i32_w]
     rfl
    refine one_ (i := 2) (N := some 16) #[true, true, true, false, true, true, false, false] rfl rfl (one_of HT_.out (by kernel_rfl)) (by decide) (fun K hK => ?_)
    refine goes_ Tryd.func135 (by kernel_rfl) rfl #[.agg #[.bool a1_0, .string a1_1, .string a1_2, .int .u64 a1_3, .int .u64 a1_4]] (by rfl) rfl rfl (by (try simp only [List.map_toArray, List.map_cons, List.map_nil]); first | done | rfl | (simp only [List.length_drop, List.length_take]; rfl)) ?_
    with_reducible refine (paymasterref07_LeafText.calls kj2 a1_0 a1_1 a1_2 a1_3 a1_4 t132 _ A15.out).mono ?_
    rintro e w18 ⟨rfl, hb⟩
    refine ⟨_, rfl, ?_⟩
    have n0_ := aM' (blk_below (g := gb128) (o := .cells #[.bool a1_0, .string a1_1, .string a1_2, .int .u64 a1_3, .int .u64 a1_4] 36 (0, 0)) (by (with_reducible repeat (first | refine blk_drewN ?_ _ | refine blk_drew ?_ | refine blk_alloc ?_ _)); exact BK128.out) hb)
    have n1_ := aM' (blk_below (g := gb129) (o := .cells #[.string (⟨#[]⟩ : ByteArray), .int .u64 0, .int .u64 0] 46 (0, 0)) (by (with_reducible repeat (first | refine blk_drewN ?_ _ | refine blk_drew ?_ | refine blk_alloc ?_ _)); exact BK129.out) hb)
    have n2_ := aM' (below_step (by repeat (first | (with_reducible first | exact HB.out | apply below_alloc | apply pw_below_drewN | apply below_drew1 | refine below_set ?_ GE128.out | refine below_set ?_ GE129.out) | exact HB.out)) hb)
    clear BK128
    clear BK129
    clear HB
    have BK128 := n0_
    have BK129 := n1_
    have HB := n2_
    clear n0_ n1_ n2_
    (try clear hb)
    (try clear hb2)
    (try clear hk)
    (try clear hi)
    refine hK.out _ _ ⟨(blk_cell BK128.out 0).trans rfl, (blk_cell BK128.out 1).trans rfl, (blk_cell BK128.out 2).trans rfl, (blk_cell BK128.out 3).trans rfl, (blk_cell BK128.out 4).trans rfl⟩ (fun hHeld => ?_)
    clear hK K
    refine norm_ (a' := ?_) ?_ ?_
    rotate_left
    ·
     show Act.put _ (some 16) _ = _
     simp only [Act.put, List.setIfInBounds_toArray, List.set_cons_zero, List.set_cons_succ, i64_w, i32_w]
     rfl
    refine one_ (i := 3) (N := some 17) #[true, true, true, true, true, true, false, false] rfl rfl (one_of HT_.out (by kernel_rfl)) (by decide) (fun K hK => ?_)
    refine goes_ Tryd.func132 (by kernel_rfl) rfl #[.int .i64 a0, .string t132] (by rfl) rfl rfl (by (try simp only [List.map_toArray, List.map_cons, List.map_nil]); first | done | rfl | (simp only [List.length_drop, List.length_take]; rfl)) ?_
    with_reducible refine (paymasterref07_Digest.calls a0 t132 t133 _ A16.out).mono ?_
    rintro e w19 ⟨rfl, hb⟩
    refine ⟨_, rfl, ?_⟩
    have n0_ := aM' (blk_below (g := gb128) (o := .cells #[.bool a1_0, .string a1_1, .string a1_2, .int .u64 a1_3, .int .u64 a1_4] 36 (0, 0)) (by (with_reducible repeat (first | refine blk_drewN ?_ _ | refine blk_drew ?_ | refine blk_alloc ?_ _)); exact BK128.out) hb)
    have n1_ := aM' (blk_below (g := gb129) (o := .cells #[.string (⟨#[]⟩ : ByteArray), .int .u64 0, .int .u64 0] 46 (0, 0)) (by (with_reducible repeat (first | refine blk_drewN ?_ _ | refine blk_drew ?_ | refine blk_alloc ?_ _)); exact BK129.out) hb)
    have n2_ := aM' (below_step (by repeat (first | (with_reducible first | exact HB.out | apply below_alloc | apply pw_below_drewN | apply below_drew1 | refine below_set ?_ GE128.out | refine below_set ?_ GE129.out) | exact HB.out)) hb)
    clear BK128
    clear BK129
    clear HB
    have BK128 := n0_
    have BK129 := n1_
    have HB := n2_
    clear n0_ n1_ n2_
    (try clear hb)
    (try clear hb2)
    (try clear hk)
    (try clear hi)
    refine hK.out _ _ ⟨(blk_cell BK128.out 0).trans rfl, (blk_cell BK128.out 1).trans rfl, (blk_cell BK128.out 2).trans rfl, (blk_cell BK128.out 3).trans rfl, (blk_cell BK128.out 4).trans rfl⟩ (fun hHeld => ?_)
    clear hK K
    refine norm_ (a' := ?_) ?_ ?_
    rotate_left
    ·
     show Act.put _ (some 17) _ = _
     simp only [Act.put, List.setIfInBounds_toArray, List.set_cons_zero, List.set_cons_succ, i64_w, i32_w]
     rfl
    refine pure_ (i := 6) (N := some 20) (v := ?_) (a' := ?_) #[true, true, true, true, true, true, true, false] rfl rfl (any_of HT_.out (by kernel_rfl)) (fun _ _ _ h => h) (Or.inl ⟨by rfl, ?_⟩) ?_ ?_
    rotate_left
    ·
     intro w'
     go_simp
     with_reducible rfl
    rotate_left
    ·
     simp only [Act.put, List.setIfInBounds_toArray, List.set_cons_zero, List.set_cons_succ, i64_w, i32_w]
     rfl
    refine one_ (i := 7) (N := none) #[true, true, true, true, true, true, true, true] rfl rfl (one_of HT_.out (by kernel_rfl)) (by decide) (fun K hK => ?_)
    have hs20 : w19.cell? ⟨gb129, 0, none⟩ = some (.string (⟨#[]⟩ : ByteArray)) := (blk_cell BK129.out 0).trans rfl
    have hfs20 := blk_frozen BK129.out 0
    have hns20_0 := NB128_129.out
    have hms20_0 := NB129_128.out
    have hs21 : w19.cell? ⟨gb129, 1, none⟩ = some (.int .u64 0) := (blk_cell BK129.out 1).trans rfl
    have hfs21 := blk_frozen BK129.out 1
    have hns21_0 := NB128_129.out
    have hms21_0 := NB129_128.out
    have hs22 : w19.cell? ⟨gb129, 2, none⟩ = some (.int .u64 0) := (blk_cell BK129.out 2).trans rfl
    have hfs22 := blk_frozen BK129.out 2
    have hns22_0 := NB128_129.out
    have hms22_0 := NB129_128.out
    refine skip_ (w1 := ?_) (by rfl) rfl ?_ ?_
    rotate_left
    ·
     go_simp
     rfl
    refine hK.out _ _ ⟨((cell_far (p := ⟨gb129, _, none⟩) NB128_129.out _).trans (((cell_far (p := ⟨gb129, _, none⟩) NB128_129.out _).trans (((cell_far (p := ⟨gb129, _, none⟩) NB128_129.out _).trans (hHeld.1)))))), ((cell_far (p := ⟨gb129, _, none⟩) NB128_129.out _).trans (((cell_far (p := ⟨gb129, _, none⟩) NB128_129.out _).trans (((cell_far (p := ⟨gb129, _, none⟩) NB128_129.out _).trans (hHeld.2.1)))))), ((cell_far (p := ⟨gb129, _, none⟩) NB128_129.out _).trans (((cell_far (p := ⟨gb129, _, none⟩) NB128_129.out _).trans (((cell_far (p := ⟨gb129, _, none⟩) NB128_129.out _).trans (hHeld.2.2.1)))))), ((cell_far (p := ⟨gb129, _, none⟩) NB128_129.out _).trans (((cell_far (p := ⟨gb129, _, none⟩) NB128_129.out _).trans (((cell_far (p := ⟨gb129, _, none⟩) NB128_129.out _).trans (hHeld.2.2.2.1)))))), ((cell_far (p := ⟨gb129, _, none⟩) NB128_129.out _).trans (((cell_far (p := ⟨gb129, _, none⟩) NB128_129.out _).trans (((cell_far (p := ⟨gb129, _, none⟩) NB128_129.out _).trans (hHeld.2.2.2.2))))))⟩ (fun hHeld => ?_)
    clear hK K
    refine done_ (done_of HT_.out (by kernel_rfl)) ?_
    try go_wp2
    refine bodyPost_ret (results_cell_row rfl _ _ gb129 46 #[.string t133, .int .u64 a1_3, .int .u64 a1_4] (0, 0) _ rfl (by (with_reducible repeat (first | refine blk_drewN ?_ _ | refine blk_drew ?_ | refine blk_alloc ?_ _)); refine blk_put (cs := #[.string t133, .int .u64 a1_3, .int .u64 0]) ?_ 2 _ rfl; (with_reducible repeat (first | refine blk_drewN ?_ _ | refine blk_drew ?_ | refine blk_alloc ?_ _)); refine blk_put (cs := #[.string t133, .int .u64 0, .int .u64 0]) ?_ 1 _ rfl; (with_reducible repeat (first | refine blk_drewN ?_ _ | refine blk_drew ?_ | refine blk_alloc ?_ _)); refine blk_put (cs := #[.string (⟨#[]⟩ : ByteArray), .int .u64 0, .int .u64 0]) ?_ 0 _ rfl; (with_reducible repeat (first | refine blk_drewN ?_ _ | refine blk_drew ?_ | refine blk_alloc ?_ _)); exact BK129.out) Tryd.underlying46 rfl (by kernel_rfl)) rfl ?_
    exact ⟨by first | rfl | (simp [errW_none, errW_some] <;> rfl) | (simp [*, errW_none, errW_some] <;> rfl), by repeat (first | (with_reducible first | exact HB.out | apply below_alloc | apply pw_below_drewN | apply below_drew1 | refine below_set ?_ GE128.out | refine below_set ?_ GE129.out) | exact HB.out)⟩
end Go.Proofs.YtfcodmdckcihmaaDoor.P
namespace Go.Proofs.YtfcodmdckcihmaaDoor.P
open Go.RowKit Go.Proofs.YtfcodmdckcihmaaDoorW.PrintWords Go.Proofs.YtfcodmdckcihmaaDoorW.PrintLast Go.Proofs.YtfcodmdckcihmaaDoorW.PrintMore
set_option linter.unusedVariables false
set_option linter.unusedSimpArgs false
set_option linter.unnecessarySimpa false
attribute [local go_sem] sel_true
def nodeText (l r : SNode) : ByteArray := (⟨#[1]⟩ : ByteArray) ++ l.f0 ++ u128B l.f1.f0 l.f1.f1 ++ r.f0 ++ u128B r.f1.f0 r.f1.f1
theorem nodeText_size (l r : SNode) : (nodeText l r).size = 33 + l.f0.size + r.f0.size := by
 simp only [nodeText, ByteArray.size_append, u128B_size]
 show 1 + _ + _ + _ + _ = _
 omega
structure NtS (w W : World) (l r : SNode) : Prop where
 hB : Below w.heap.size w W
 h0 : W.heap[w.heap.size]? = some (.cells #[.string l.f0, .int .u64 l.f1.f0, .int .u64 l.f1.f1] 46 (0, 0))
 h1 : W.heap[w.heap.size + 1]? = some (.cells #[.string r.f0, .int .u64 r.f1.f0, .int .u64 r.f1.f1] 46 (0, 0))
theorem NtS.below {w W W' : World} {l r : SNode} (h : NtS w W l r) (hb : Below W.heap.size W W') : NtS w W' l r := ⟨h.hB.trans (hb.mono h.hB.size), blk_below h.h0 hb, blk_below h.h1 hb⟩
set_option maxRecDepth 100000 in
set_option maxHeartbeats 2000000 in
theorem nodeText.calls (l r : SNode) (hl : l.f0.size ≤ 1000000) (hr : r.f0.size ≤ 1000000) (w : World) :
  Calls Tryd.prog 33 #[.agg #[.string l.f0, .int .u64 l.f1.f0, .int .u64 l.f1.f1], .agg #[.string r.f0, .int .u64 r.f1.f0, .int .u64 r.f1.f1]] w fun e w' => e = .returned (.string (nodeText l r)) ∧ Below w.heap.size w w' := by
 have HL := aM' hl
 have HR := aM' hr
 have HT := aM' (show nodeText l r = (⟨#[1]⟩ : ByteArray) ++ l.f0 ++ u128B l.f1.f0 l.f1.f1 ++ r.f0 ++ u128B r.f1.f0 r.f1.f1 from rfl)
 have hz1 : ByteArray.size (⟨#[1]⟩ : ByteArray) = 1 := rfl
 have HZ := aM' hz1
 clear hl hr hz1
 obtain ⟨bl, hbl⟩ : ∃ b, b = u128B l.f1.f0 l.f1.f1 := ⟨_, rfl⟩
 obtain ⟨br, hbr⟩ : ∃ b, b = u128B r.f1.f0 r.f1.f1 := ⟨_, rfl⟩
 have HBl := aM' (show bl.size = 16 by rw [hbl, u128B_size])
 have HBr := aM' (show br.size = 16 by rw [hbr, u128B_size])
 have HFl := aM' (show u128_Bytes.f l.f1.f0 l.f1.f1 = some bl by rw [hbl]; exact u128Bytes_eq _ _)
 have HFr := aM' (show u128_Bytes.f r.f1.f0 r.f1.f1 = some br by rw [hbr]; exact u128Bytes_eq _ _)
 rw [← hbl, ← hbr] at HT
 clear hbl hbr
 go_enter Tryd.func33, Tryd.ntmps33
 go_wp2
 have HS := aM' (show NtS w ((w.alloc (.cells #[.string l.f0, .int .u64 l.f1.f0, .int .u64 l.f1.f1] 46)).alloc (.cells #[.string r.f0, .int .u64 r.f1.f0, .int .u64 r.f1.f1] 46)) l r from
  ⟨below_alloc (below_alloc (Below.refl _ _) _) _, blk_alloc (blk_new w _) _, by have := blk_new (w.alloc (.cells #[.string l.f0, .int .u64 l.f1.f0, .int .u64 l.f1.f1] 46)) (.cells #[.string r.f0, .int .u64 r.f1.f0, .int .u64 r.f1.f1] 46); rwa [World.size_alloc] at this⟩)
 refine region_inv (fun l_ a W => ∃ γ : Nat, a = ({ tmps := #[.agg #[.string l.f0, .int .u64 l.f1.f0, .int .u64 l.f1.f1], .agg #[.string r.f0, .int .u64 r.f1.f0, .int .u64 r.f1.f1], .pointer (some ⟨w.heap.size, 0, none⟩), .pointer (some ⟨w.heap.size + 1, 0, none⟩), sel (l_ 16) (.string ((⟨#[1]⟩ : ByteArray) ++ l.f0 ++ bl ++ r.f0 ++ br)) (.string ⟨#[]⟩), sel (l_ 0) (.slice (some ⟨γ, 0, none⟩) 1 1) (undef), sel (l_ 1) (.string (⟨#[1]⟩ : ByteArray)) (undef), sel (l_ 2) (.pointer (some ⟨w.heap.size, 0, none⟩)) (undef), sel (l_ 3) (.string l.f0) (undef), sel (l_ 4) (.string ((⟨#[1]⟩ : ByteArray) ++ l.f0)) (undef), sel (l_ 5) (.pointer (some ⟨w.heap.size, 1, none⟩)) (undef), sel (l_ 6) (.agg #[.int .u64 l.f1.f0, .int .u64 l.f1.f1]) (undef), sel (l_ 7) (.string bl) (undef), sel (l_ 8) (.string ((⟨#[1]⟩ : ByteArray) ++ l.f0 ++ bl)) (undef), sel (l_ 9) (.pointer (some ⟨w.heap.size + 1, 0, none⟩)) (undef), sel (l_ 10) (.string r.f0) (undef), sel (l_ 11) (.string ((⟨#[1]⟩ : ByteArray) ++ l.f0 ++ bl ++ r.f0)) (undef), sel (l_ 12) (.pointer (some ⟨w.heap.size + 1, 1, none⟩)) (undef), sel (l_ 13) (.agg #[.int .u64 r.f1.f0, .int .u64 r.f1.f1]) (undef), sel (l_ 14) (.string br) (undef), sel (l_ 15) (.string ((⟨#[1]⟩ : ByteArray) ++ l.f0 ++ bl ++ r.f0 ++ br)) (undef)], defers := [] } : Act) ∧ (NtS w W l r ∧ (l_ 0 = true → W.heap[γ]? = some (.cells #[.int .u8 1] 5 (0, 0))))) 17 rfl rfl (by kernel_rfl) ?h0 ?hend ?hstep
 case h0 => exact ⟨0, rfl, HS.out.below (below_drew (Below.refl _ _)), fun h => by cases h⟩
 case hstep =>
  refine rg_cons (rg_cons (rg_cons (rg_cons (rg_cons (rg_cons (rg_cons (rg_cons (rg_cons (rg_cons (rg_cons (rg_cons (rg_cons (rg_cons (rg_cons (rg_cons (rg_cons (rg_nil) ?s0) ?s1) ?s2) ?s3) ?s4) ?s5) ?s6) ?s7) ?s8) ?s9) ?s10) ?s11) ?s12) ?s13) ?s14) ?s15) ?s16
  case s0 =>
   refine rg_step rfl ?_
   rintro l_ a W ⟨γ, rfl, hI⟩ hl hd
   clear hd
   refine rg_val (v := .slice (some ⟨W.heap.size, 0, none⟩) 1 1) (w' := W.alloc (.cells #[.int .u8 1] 5)) rfl (by go_simp) ?_
   refine ⟨W.heap.size, ?_, ?_⟩
   ·
    simp only [Act.put, List.setIfInBounds_toArray, List.set_cons_zero, List.set_cons_succ]; rfl
   ·
    exact ⟨hI.1.below (below_alloc (Below.refl _ _) _), fun _ => blk_new W _⟩
  case s1 =>
   refine rg_step rfl ?_
   rintro l_ a W ⟨γ, rfl, hI⟩ hl hd
   have d0 := hd 0 (by decide)
   clear hd
   have y0 := blk_cell (hI.2 d0) 0
   simp at y0
   refine rg_val (v := .string (⟨#[1]⟩ : ByteArray)) (w' := W) rfl ?_ ?_
   ·
    have hcv := run_convert_bytes_arg (P := Tryd.prog) (w := W) 125 5 Tryd.underlying125 Tryd.underlying5 γ 0 1 1 [1] rfl (fun i hi => by obtain rfl : i = 0 := (by omega); exact y0) 9 Tryd.underlying9
    rw [show strOfNums [1] = (⟨#[1]⟩ : ByteArray) from rfl] at hcv
    go_simp
   refine ⟨γ, ?_, ?_⟩
   ·
    simp only [Act.put, List.setIfInBounds_toArray, List.set_cons_zero, List.set_cons_succ]; rfl
   ·
    exact hI
  case s2 =>
   refine rg_step rfl ?_
   rintro l_ a W ⟨γ, rfl, hI⟩ hl hd
   clear hd
   refine rg_val (v := .pointer (some ⟨w.heap.size, 0, none⟩)) (w' := W) rfl (by go_simp) ?_
   refine ⟨γ, ?_, ?_⟩
   ·
    simp only [Act.put, List.setIfInBounds_toArray, List.set_cons_zero, List.set_cons_succ]; rfl
   ·
    exact hI
  case s3 =>
   refine rg_step rfl ?_
   rintro l_ a W ⟨γ, rfl, hI⟩ hl hd
   have d2 := hd 2 (by decide)
   clear hd
   have x0 := blk_cell (hI.1.h0) 0
   simp at x0
   refine rg_val (v := .string l.f0) (w' := W) rfl (by go_simp) ?_
   refine ⟨γ, ?_, ?_⟩
   ·
    simp only [Act.put, List.setIfInBounds_toArray, List.set_cons_zero, List.set_cons_succ]; rfl
   ·
    exact hI
  case s4 =>
   refine rg_step rfl ?_
   rintro l_ a W ⟨γ, rfl, hI⟩ hl hd
   have d1 := hd 1 (by decide)
   have d3 := hd 3 (by decide)
   clear hd
   refine rg_val (v := .string ((⟨#[1]⟩ : ByteArray) ++ l.f0)) (w' := W) rfl (by go_simp; have := HL.out; have := HR.out; have := HBl.out; have := HBr.out; omega) ?_
   refine ⟨γ, ?_, ?_⟩
   ·
    simp only [Act.put, List.setIfInBounds_toArray, List.set_cons_zero, List.set_cons_succ]; rfl
   ·
    exact hI
  case s5 =>
   refine rg_step rfl ?_
   rintro l_ a W ⟨γ, rfl, hI⟩ hl hd
   clear hd
   refine rg_val (v := .pointer (some ⟨w.heap.size, 1, none⟩)) (w' := W) rfl (by go_simp) ?_
   refine ⟨γ, ?_, ?_⟩
   ·
    simp only [Act.put, List.setIfInBounds_toArray, List.set_cons_zero, List.set_cons_succ]; rfl
   ·
    exact hI
  case s6 =>
   refine rg_step rfl ?_
   rintro l_ a W ⟨γ, rfl, hI⟩ hl hd
   have d5 := hd 5 (by decide)
   clear hd
   have x1 := blk_cell (hI.1.h0) 1
   have x2 := blk_cell (hI.1.h0) 2
   simp at x1 x2
   refine rg_val (v := .agg #[.int .u64 l.f1.f0, .int .u64 l.f1.f1]) (w' := W) rfl (by go_simp) ?_
   refine ⟨γ, ?_, ?_⟩
   ·
    simp only [Act.put, List.setIfInBounds_toArray, List.set_cons_zero, List.set_cons_succ]; rfl
   ·
    exact hI
  case s7 =>
   refine rg_step rfl ?_
   rintro l_ a W ⟨γ, rfl, hI⟩ hl hd
   have d6 := hd 6 (by decide)
   clear hd
   refine rg_call rfl (by go_simp; exact ⟨rfl, rfl⟩) ?_
   refine (u128_Bytes.calls _ _ _ _ HFl.out).mono ?_
   rintro x W' ⟨rfl, hb⟩
   refine ⟨_, rfl, γ, ?_, ?_⟩
   ·
    simp only [Act.put, List.setIfInBounds_toArray, List.set_cons_zero, List.set_cons_succ]; rfl
   ·
    exact ⟨hI.1.below hb, fun h => blk_below (hI.2 h) hb⟩
  case s8 =>
   refine rg_step rfl ?_
   rintro l_ a W ⟨γ, rfl, hI⟩ hl hd
   have d4 := hd 4 (by decide)
   have d7 := hd 7 (by decide)
   clear hd
   refine rg_val (v := .string ((⟨#[1]⟩ : ByteArray) ++ l.f0 ++ bl)) (w' := W) rfl (by go_simp; have := HL.out; have := HR.out; have := HBl.out; have := HBr.out; omega) ?_
   refine ⟨γ, ?_, ?_⟩
   ·
    simp only [Act.put, List.setIfInBounds_toArray, List.set_cons_zero, List.set_cons_succ]; rfl
   ·
    exact hI
  case s9 =>
   refine rg_step rfl ?_
   rintro l_ a W ⟨γ, rfl, hI⟩ hl hd
   clear hd
   refine rg_val (v := .pointer (some ⟨w.heap.size + 1, 0, none⟩)) (w' := W) rfl (by go_simp) ?_
   refine ⟨γ, ?_, ?_⟩
   ·
    simp only [Act.put, List.setIfInBounds_toArray, List.set_cons_zero, List.set_cons_succ]; rfl
   ·
    exact hI
  case s10 =>
   refine rg_step rfl ?_
   rintro l_ a W ⟨γ, rfl, hI⟩ hl hd
   have d9 := hd 9 (by decide)
   clear hd
   have x0 := blk_cell (hI.1.h1) 0
   simp at x0
   refine rg_val (v := .string r.f0) (w' := W) rfl (by go_simp) ?_
   refine ⟨γ, ?_, ?_⟩
   ·
    simp only [Act.put, List.setIfInBounds_toArray, List.set_cons_zero, List.set_cons_succ]; rfl
   ·
    exact hI
  case s11 =>
   refine rg_step rfl ?_
   rintro l_ a W ⟨γ, rfl, hI⟩ hl hd
   have d8 := hd 8 (by decide)
   have d10 := hd 10 (by decide)
   clear hd
   refine rg_val (v := .string ((⟨#[1]⟩ : ByteArray) ++ l.f0 ++ bl ++ r.f0)) (w' := W) rfl (by go_simp; have := HL.out; have := HR.out; have := HBl.out; have := HBr.out; omega) ?_
   refine ⟨γ, ?_, ?_⟩
   ·
    simp only [Act.put, List.setIfInBounds_toArray, List.set_cons_zero, List.set_cons_succ]; rfl
   ·
    exact hI
  case s12 =>
   refine rg_step rfl ?_
   rintro l_ a W ⟨γ, rfl, hI⟩ hl hd
   clear hd
   refine rg_val (v := .pointer (some ⟨w.heap.size + 1, 1, none⟩)) (w' := W) rfl (by go_simp) ?_
   refine ⟨γ, ?_, ?_⟩
   ·
    simp only [Act.put, List.setIfInBounds_toArray, List.set_cons_zero, List.set_cons_succ]; rfl
   ·
    exact hI
  case s13 =>
   refine rg_step rfl ?_
   rintro l_ a W ⟨γ, rfl, hI⟩ hl hd
   have d12 := hd 12 (by decide)
   clear hd
   have x1 := blk_cell (hI.1.h1) 1
   have x2 := blk_cell (hI.1.h1) 2
   simp at x1 x2
   refine rg_val (v := .agg #[.int .u64 r.f1.f0, .int .u64 r.f1.f1]) (w' := W) rfl (by go_simp) ?_
   refine ⟨γ, ?_, ?_⟩
   ·
    simp only [Act.put, List.setIfInBounds_toArray, List.set_cons_zero, List.set_cons_succ]; rfl
   ·
    exact hI
  case s14 =>
   refine rg_step rfl ?_
   rintro l_ a W ⟨γ, rfl, hI⟩ hl hd
   have d13 := hd 13 (by decide)
   clear hd
   refine rg_call rfl (by go_simp; exact ⟨rfl, rfl⟩) ?_
   refine (u128_Bytes.calls _ _ _ _ HFr.out).mono ?_
   rintro x W' ⟨rfl, hb⟩
   refine ⟨_, rfl, γ, ?_, ?_⟩
   ·
    simp only [Act.put, List.setIfInBounds_toArray, List.set_cons_zero, List.set_cons_succ]; rfl
   ·
    exact ⟨hI.1.below hb, fun h => blk_below (hI.2 h) hb⟩
  case s15 =>
   refine rg_step rfl ?_
   rintro l_ a W ⟨γ, rfl, hI⟩ hl hd
   have d11 := hd 11 (by decide)
   have d14 := hd 14 (by decide)
   clear hd
   refine rg_val (v := .string ((⟨#[1]⟩ : ByteArray) ++ l.f0 ++ bl ++ r.f0 ++ br)) (w' := W) rfl (by go_simp; have := HL.out; have := HR.out; have := HBl.out; have := HBr.out; omega) ?_
   refine ⟨γ, ?_, ?_⟩
   ·
    simp only [Act.put, List.setIfInBounds_toArray, List.set_cons_zero, List.set_cons_succ]; rfl
   ·
    exact hI
  case s16 =>
   refine rg_step rfl ?_
   rintro l_ a W ⟨γ, rfl, hI⟩ hl hd
   have d15 := hd 15 (by decide)
   clear hd
   refine rg_val (v := .string ((⟨#[1]⟩ : ByteArray) ++ l.f0 ++ bl ++ r.f0 ++ br)) (w' := W) rfl (by go_simp) ?_
   refine ⟨γ, ?_, ?_⟩
   ·
    simp only [Act.put, List.setIfInBounds_toArray, List.set_cons_zero, List.set_cons_succ]; rfl
   ·
    exact hI
 case hend =>
  rintro l_ a W ⟨γ, rfl, hI⟩ hall
  have e0 := hall 0 (by decide)
  have e1 := hall 1 (by decide)
  have e2 := hall 2 (by decide)
  have e3 := hall 3 (by decide)
  have e4 := hall 4 (by decide)
  have e5 := hall 5 (by decide)
  have e6 := hall 6 (by decide)
  have e7 := hall 7 (by decide)
  have e8 := hall 8 (by decide)
  have e9 := hall 9 (by decide)
  have e10 := hall 10 (by decide)
  have e11 := hall 11 (by decide)
  have e12 := hall 12 (by decide)
  have e13 := hall 13 (by decide)
  have e14 := hall 14 (by decide)
  have e15 := hall 15 (by decide)
  have e16 := hall 16 (by decide)
  clear hall
  simp only [e0, e1, e2, e3, e4, e5, e6, e7, e8, e9, e10, e11, e12, e13, e14, e15, e16, sel_true]
  clear e0 e1 e2 e3 e4 e5 e6 e7 e8 e9 e10 e11 e12 e13 e14 e15 e16
  have HI := aM' hI.1
  clear hI
  go_wp2
  go_ret
  exact ⟨by rw [HT.out]; rfl, HI.out.hB⟩
def tag_NodeText.f (a0 : ByteArray) (a1 a2 : Int) (b0 : ByteArray) (b1 b2 : Int) : Option ByteArray := if a0.size ≤ 1000000 ∧ b0.size ≤ 1000000 then some (nodeText ⟨a0, ⟨a1, a2⟩⟩ ⟨b0, ⟨b1, b2⟩⟩) else none
theorem tag_NodeText.calls (a0 : ByteArray) (a1 a2 : Int) (b0 : ByteArray) (b1 b2 : Int) (r : ByteArray) (w : World) (h : tag_NodeText.f a0 a1 a2 b0 b1 b2 = some r) :
  Calls Tryd.prog 33 #[.agg #[.string a0, .int .u64 a1, .int .u64 a2], .agg #[.string b0, .int .u64 b1, .int .u64 b2]] w fun e w' => e = .returned (.string r) ∧ Below w.heap.size w w' := by
 unfold tag_NodeText.f at h
 split at h
 ·
  rename_i hh
  obtain rfl := Option.some.inj h
  exact nodeText.calls ⟨a0, ⟨a1, a2⟩⟩ ⟨b0, ⟨b1, b2⟩⟩ hh.1 hh.2 w
 ·
  cases h
end Go.Proofs.YtfcodmdckcihmaaDoor.P
namespace Go.Proofs.YtfcodmdckcihmaaDoor.P
open Go.RowKit Go.Proofs.YtfcodmdckcihmaaDoorW.PrintWords Go.Proofs.YtfcodmdckcihmaaDoorW.PrintLast Go.Proofs.YtfcodmdckcihmaaDoorW.PrintMore
set_option linter.unusedVariables false
set_option linter.unusedSimpArgs false
set_option linter.unnecessarySimpa false
theorem ext_ext (t : ByteArray) (a i j : Nat) (h : a + j ≤ t.size) : (t.extract a t.size).extract i j = t.extract (a + i) (a + j) := by
 rw [ByteArray.extract_extract]
 congr 1
 omega
theorem chainI_front (t : ByteArray) (s : S8) : ∀ n, 64 * (n + 1) ≤ t.size → chainI s t (n + 1) = chainI (nextI s (t.extract 0 64)) (t.extract 64 t.size) n
 | 0, h => rfl
 | n + 1, h => by
  rw [chainI, chainI_front t s n (by omega), chainI, ext_ext t 64 _ _ (by omega), show 64 + 64 * n = 64 * (n + 1) by omega, show 64 + (64 * n + 64) = 64 * (n + 1) + 64 by omega]
theorem eat_blksN : ∀ (n : Nat) (t : ByteArray), t.size / 64 = n → ∀ r : Run, (blksN n t).foldl eat r = ⟨chainI r.s t n, t.extract (64 * n) t.size, r.n⟩
 | 0, t, h, r => by
  simp only [blksN, List.foldl_cons, List.foldl_nil, eat, chainI]
  simp
 | n + 1, t, h, r => by
  have h64 : 64 * (n + 1) ≤ t.size := by omega
  have hs : (t.extract 64 t.size).size = t.size - 64 := by rw [ByteArray.size_extract]; omega
  rw [blksN, List.foldl_cons, eat_blksN n _ (by rw [hs]; omega)]
  simp only [eat, if_true]
  rw [chainI_front t r.s n h64, hs, ext_ext t 64 _ _ (by omega), show 64 + 64 * n = 64 * (n + 1) by omega, show 64 + (t.size - 64) = t.size by omega]
def ran (t : ByteArray) : Run := ⟨chainI firstI t (t.size / 64), t.extract (64 * (t.size / 64)) t.size, (t.size : Int)⟩
theorem chainI_append (s : S8) (t u : ByteArray) : ∀ n, 64 * n ≤ t.size → chainI s (t ++ u) n = chainI s t n
 | 0, _ => rfl
 | n + 1, h => by
  rw [chainI, chainI, chainI_append s t u n (by omega), ByteArray.extract_append]
  have : u.extract (64 * n - t.size) (64 * n + 64 - t.size) = ByteArray.empty := by
   rw [show 64 * n - t.size = 0 by omega, show 64 * n + 64 - t.size = 0 by omega]; simp
  rw [this, ByteArray.append_empty]
theorem chainI_plus (s : S8) (t : ByteArray) (a : Nat) : ∀ n, 64 * (a + n) ≤ t.size → chainI (chainI s t a) (t.extract (64 * a) t.size) n = chainI s t (a + n)
 | 0, _ => rfl
 | n + 1, h => by
  rw [chainI, chainI_plus s t a n (by omega), ← Nat.add_assoc, chainI, ext_ext t (64 * a) _ _ (by omega), show 64 * a + 64 * n = 64 * (a + n) by omega, show 64 * a + (64 * n + 64) = 64 * (a + n) + 64 by omega]
theorem ext_over (t : ByteArray) (i j : Nat) (h : t.size ≤ j) : t.extract i j = t.extract i t.size := by
 apply ByteArray.ext
 rw [ByteArray.data_extract, ByteArray.data_extract]
 rcases Nat.lt_or_eq_of_le h with h | h
 ·
  exact Array.extract_of_size_lt h
 ·
  rw [← h]
theorem ext_cat (t u : ByteArray) (a : Nat) (h : a ≤ t.size) : t.extract a t.size ++ u = (t ++ u).extract a (t ++ u).size := by
 rw [ByteArray.extract_append, ByteArray.size_append, ext_over t a (t.size + u.size) (by omega), show a - t.size = 0 by omega, show t.size + u.size - t.size = u.size by omega]
 rw [show u.extract 0 u.size = u by simp]
theorem takeI_ran (t u : ByteArray) (h : t.size + u.size < 18446744073709551616) : takeI (ran t) u = ran (t ++ u) := by
 have ha : 64 * (t.size / 64) ≤ t.size := by omega
 have hs : (t ++ u).size = t.size + u.size := ByteArray.size_append
 have hc := ext_cat t u (64 * (t.size / 64)) ha
 have hz : ((t ++ u).extract (64 * (t.size / 64)) (t ++ u).size).size = t.size + u.size - 64 * (t.size / 64) := by rw [ByteArray.size_extract, hs]; omega
 unfold takeI ran
 rw [hc, blks, eat_blksN _ _ rfl]
 rw [← chainI_append firstI t u _ ha, chainI_plus firstI (t ++ u) (t.size / 64) _ (by rw [hz, hs]; omega), hz, hs, ← hs, ext_ext _ _ _ _ (by rw [hs]; omega), hs]
 have e1 : t.size / 64 + (t.size + u.size - 64 * (t.size / 64)) / 64 = (t.size + u.size) / 64 := by omega
 have e2 : 64 * (t.size / 64) + 64 * ((t.size + u.size - 64 * (t.size / 64)) / 64) = 64 * ((t.size + u.size) / 64) := by omega
 have e3 : 64 * (t.size / 64) + (t.size + u.size - 64 * (t.size / 64)) = t.size + u.size := by omega
 have e4 : IntKind.u64.wrap ((t.size : Int) + (u.size : Int)) = ((t.size + u.size : Nat) : Int) := by rw [IntKind.wrap_u64]; omega
 rw [e1, e2, e3, e4]
theorem newRun_ran : newRun = ran ByteArray.empty := rfl
theorem ran_sum (t : ByteArray) (h : t.size < 1000000000000) : (ran t).sum = refSumI t := by
 have hp : (padI (t.size : Int)).size ≤ 72 := by rw [padI_size]; unfold padZ; omega
 rw [Run.sum, show (ran t).n = (t.size : Int) from rfl, takeI_ran t _ (by omega)]
 rfl
theorem sumI_ref (t : ByteArray) (h : t.size < 1000000000000) : sumI t = refSumI t := by
 have e : takeI newRun t = ran t := by
  rw [newRun_ran, takeI_ran _ _ (by show 0 + t.size < _; omega), ByteArray.empty_append]
 rw [sumI, e, ran_sum t h]
end Go.Proofs.YtfcodmdckcihmaaDoor.P
namespace Go.Proofs.YtfcodmdckcihmaaDoor.P
open Go.RowKit Go.Proofs.YtfcodmdckcihmaaDoorW.PrintWords Go.Proofs.YtfcodmdckcihmaaDoorW.PrintLast Go.Proofs.YtfcodmdckcihmaaDoorW.PrintMore
set_option linter.unusedVariables false
set_option linter.unusedSimpArgs false
set_option linter.unnecessarySimpa false
structure OkU (u : SU128) : Prop where
 h0 : 0 ≤ u.f0 ∧ u.f0 < 18446744073709551616
 h1 : 0 ≤ u.f1 ∧ u.f1 < 18446744073709551616
theorem tagNodeText_eq (l r : SNode) (hl : l.f0.size ≤ 1000000) (hr : r.f0.size ≤ 1000000) : tag_NodeText.f l.f0 l.f1.f0 l.f1.f1 r.f0 r.f1.f0 r.f1.f1 = some (nodeText l r) := by
 unfold tag_NodeText.f
 rw [if_pos ⟨hl, hr⟩]
theorem refNodeText_ev (l r : SNode) (hl : l.f0.size ≤ 1000000) (hr : r.f0.size ≤ 1000000) (ul : OkU l.f1) (ur : OkU r.f1) : Ev (fun k => paymasterref07_NodeText.f k l.f0 l.f1.f0 l.f1.f1 r.f0 r.f1.f0 r.f1.f1) (nodeText l r) := by
 have h1 : ByteArray.size (⟨#[1]⟩ : ByteArray) = 1 := rfl
 unfold paymasterref07_NodeText.f
 refine Ev.congr (fun k => by rw [if_pos (by omega)]) (Ev.bind (refBytes_ev _ _ ul.h0 ul.h1) ?_)
 refine Ev.congr (fun k => by rw [if_pos (by simp only [ByteArray.size_append, u128B_size, h1]; omega), if_pos (by simp only [ByteArray.size_append, u128B_size, h1]; omega)]) (Ev.bind (refBytes_ev _ _ ur.h0 ur.h1) ?_)
 exact Ev.congr (fun k => by rw [if_pos (by simp only [ByteArray.size_append, u128B_size, h1]; omega)]; rfl) (Ev.now _)
def dgI (w : Int) (t : ByteArray) : ByteArray := (refSumI t).extract 0 w.toNat
theorem refSumI_len (t : ByteArray) : (refSumI t).size = 32 := by
 rw [refSumI, digestI, strOfNums_size, digL_length]
theorem dgI_size (w : Int) (t : ByteArray) (h0 : 0 ≤ w) (h : w ≤ 32) : (dgI w t).size = w.toNat := by
 rw [dgI, ByteArray.size_extract, refSumI_len]; omega
theorem tagDigest_eq (w : Int) (t : ByteArray) (h0 : 1 ≤ w) (h1 : w ≤ 32) (ht : t.size ≤ 100000000) : tag_Digest.f w t = some (dgI w t) := by
 have e : sha_Sum.f t = some (refSumI t) := by rw [sha_Sum.f, if_pos (by omega), sumI_ref t (by omega)]
 unfold tag_Digest.f tag_MayWidth.f
 rw [if_pos h0]
 simp only [Option.bind_some, decide_eq_true h1, if_true, e]
 rw [if_pos (by omega), if_pos (by rw [refSumI_len]; omega)]
 rfl
theorem refDigest_eq (w : Int) (t : ByteArray) (h0 : 1 ≤ w) (h1 : w ≤ 32) (ht : t.size ≤ 100000000) : paymasterref07_Digest.f w t = some (dgI w t) := by
 have e : ref05_Sum.f t = some (refSumI t) := by rw [ref05_Sum.f, if_pos (by omega)]
 unfold paymasterref07_Digest.f paymasterref07_MayWidth.f
 rw [if_pos h0]
 simp only [Option.bind_some, decide_eq_true h1, if_true, e]
 rw [if_pos (by omega), if_pos (by rw [refSumI_len]; omega)]
 rfl
def joinI (w : Int) (l r : SNode) : ByteArray × Int × Int × Int :=
 if nodeOf w l = true ∧ nodeOf w r = true then
  (if (addI128 l.f1.f0 l.f1.f1 r.f1.f0 r.f1.f1).2.2 = 0 then (dgI w (nodeText l r), (addI128 l.f1.f0 l.f1.f1 r.f1.f0 r.f1.f1).1, (addI128 l.f1.f0 l.f1.f1 r.f1.f0 r.f1.f1).2.1, 0) else (⟨#[]⟩, 0, 0, 10))
 else (⟨#[]⟩, 0, 0, 70)
theorem nodeOf_w {w : Int} {n : SNode} (h : nodeOf w n = true) : 1 ≤ w ∧ w ≤ 32 ∧ (n.f0.size : Int) = w := by
 simp only [nodeOf, Bool.and_eq_true, decide_eq_true_eq, beq_iff_eq] at h
 exact h
attribute [local go_sem] sel_true
structure JnB (w : World) (l r z : SNode) (W : World) : Prop where
 h4 : W.heap[w.heap.size]? = some (.cells #[.string l.f0, .int .u64 l.f1.f0, .int .u64 l.f1.f1] 46 (0, 0))
 h5 : W.heap[w.heap.size + 1]? = some (.cells #[.string r.f0, .int .u64 r.f1.f0, .int .u64 r.f1.f1] 46 (0, 0))
 h6 : W.heap[w.heap.size + 1 + 1]? = some (.cells #[.string z.f0, .int .u64 z.f1.f0, .int .u64 z.f1.f1] 46 (0, 0))
 hB : Below w.heap.size w W
theorem JnB.below {w W W' : World} {l r z : SNode} (h : JnB w l r z W) (hb : Below W.heap.size W W') : JnB w l r z W' := ⟨blk_below h.h4 hb, blk_below h.h5 hb, blk_below h.h6 hb, h.hB.trans (hb.mono h.hB.size)⟩
theorem JnB.put {w W : World} {l r z : SNode} (h : JnB w l r z W) (y : SNode) : JnB w l r y (((W.setCell ⟨w.heap.size + 1 + 1, 0, none⟩ (.string y.f0)).setCell ⟨w.heap.size + 1 + 1, 1, none⟩ (.int .u64 y.f1.f0)).setCell ⟨w.heap.size + 1 + 1, 2, none⟩ (.int .u64 y.f1.f1)) :=
 ⟨blk_far (blk_far (blk_far h.h4 (by (try dsimp only); omega) _) (by (try dsimp only); omega) _) (by (try dsimp only); omega) _, blk_far (blk_far (blk_far h.h5 (by (try dsimp only); omega) _) (by (try dsimp only); omega) _) (by (try dsimp only); omega) _, blk_put (blk_put (blk_put h.h6 0 _ rfl) 1 _ rfl) 2 _ rfl, below_set (below_set (below_set h.hB (by omega)) (by omega)) (by omega)⟩
theorem JnB.start (w : World) (l r : SNode) : JnB w l r ⟨⟨#[]⟩, ⟨0, 0⟩⟩ (((w.alloc (.cells #[.string l.f0, .int .u64 l.f1.f0, .int .u64 l.f1.f1] 46)).alloc (.cells #[.string r.f0, .int .u64 r.f1.f0, .int .u64 r.f1.f1] 46)).alloc (.cells #[.string ⟨#[]⟩, .int .u64 0, .int .u64 0] 46)) := by
 refine ⟨blk_alloc (blk_alloc (blk_new w _) _) _, blk_alloc ?_ _, ?_, below_alloc (below_alloc (below_alloc (Below.refl _ _) _) _) _⟩
 ·
  have := blk_new (w.alloc (.cells #[.string l.f0, .int .u64 l.f1.f0, .int .u64 l.f1.f1] 46)) (.cells #[.string r.f0, .int .u64 r.f1.f0, .int .u64 r.f1.f1] 46); rwa [World.size_alloc] at this
 ·
  have := blk_new ((w.alloc (.cells #[.string l.f0, .int .u64 l.f1.f0, .int .u64 l.f1.f1] 46)).alloc (.cells #[.string r.f0, .int .u64 r.f1.f0, .int .u64 r.f1.f1] 46)) (.cells #[.string ⟨#[]⟩, .int .u64 0, .int .u64 0] 46); rwa [World.size_alloc, World.size_alloc] at this
set_option maxRecDepth 100000 in
set_option maxHeartbeats 1000000 in
theorem node_Join.walk (wd : Int) (nl nr : SNode) (w : World) (hK : Laid w) (hu1 : OkU nl.f1) (hu2 : OkU nr.f1) :
  Calls Tryd.prog 59 #[.int .i64 wd, .agg #[.string nl.f0, .int .u64 nl.f1.f0, .int .u64 nl.f1.f1], .agg #[.string nr.f0, .int .u64 nr.f1.f0, .int .u64 nr.f1.f1]] w fun e w' => e = .returned (.tuple #[.agg #[.string (joinI wd nl nr).1, .int .u64 (joinI wd nl nr).2.1, .int .u64 (joinI wd nl nr).2.2.1], .int .i64 (joinI wd nl nr).2.2.2]) ∧ Below w.heap.size w w' := by
 obtain ⟨J, hJ⟩ : ∃ J, J = joinI wd nl nr := ⟨_, rfl⟩
 rw [← hJ]
 have HJ := aM' hJ
 clear hJ
 have hu := Tryd.underlying46
 have hu3 := Tryd.underlying34
 have HS := aM' (JnB.start w nl nr)
 have HK := aM' hK
 clear hK
 obtain ⟨W0, hW0⟩ : ∃ V, V = ((w.alloc (.cells #[.string nl.f0, .int .u64 nl.f1.f0, .int .u64 nl.f1.f1] 46)).alloc (.cells #[.string nr.f0, .int .u64 nr.f1.f0, .int .u64 nr.f1.f1] 46)).alloc (.cells #[.string ⟨#[]⟩, .int .u64 0, .int .u64 0] 46) := ⟨_, rfl⟩
 rw [← hW0] at HS
 have HL := aM' hu1
 have HR := aM' hu2
 clear hu1 hu2
 have p0 := blk_cell HS.out.h4 0
 have p1 := blk_cell HS.out.h4 1
 have p2 := blk_cell HS.out.h4 2
 simp at p0 p1 p2
 go_enter Tryd.func59, Tryd.ntmps59
 go_wp2_with fail
 rw [← hW0]
 clear hW0
 refine (node_Of.calls wd nl.f0 nl.f1.f0 nl.f1.f1 (nodeOf wd nl) _ (node_Of_eq wd nl)).mono ?_
 rintro e w1 ⟨rfl, hb⟩
 have HS1 := aM' (HS.out.below hb)
 clear hb p0 p1 p2
 have p0 := fun i => blk_cell HS1.out.h6 i
 have pf := fun i => blk_frozen HS1.out.h6 i
 have q0 := blk_cell HS1.out.h5 0
 have q1 := blk_cell HS1.out.h5 1
 have q2 := blk_cell HS1.out.h5 2
 simp at q0 q1 q2
 have z0 := p0 0
 have z1 := p0 1
 have z2 := p0 2
 simp at z0 z1 z2
 clear p0
 cases h1 : nodeOf wd nl with
 | false =>
  have HI := aM' (show J = (⟨#[]⟩, 0, 0, 70) by rw [HJ.out]; unfold joinI; rw [if_neg (by rw [h1]; simp)])
  have HZ := aM' (HS1.out.put ⟨⟨#[]⟩, ⟨0, 0⟩⟩)
  have y0 := blk_cell HZ.out.h6 0
  have y1 := blk_cell HZ.out.h6 1
  have y2 := blk_cell HZ.out.h6 2
  simp at y0 y1 y2
  clear h1
  go_wp2
  refine bodyPost_ret (v := .tuple #[.agg #[.string ⟨#[]⟩, .int .u64 0, .int .u64 0], .int .i64 70]) ?_ rfl ⟨by rw [HI.out], HZ.out.hB⟩
  simp [results, Tryd.results59, go_sem, hu, y0, y1, y2]
 | true =>
  have H1 := aM' h1
  clear h1
  go_wp2_with fail
  refine (node_Of.calls wd nr.f0 nr.f1.f0 nr.f1.f1 (nodeOf wd nr) _ (node_Of_eq wd nr)).mono ?_
  rintro e w2 ⟨rfl, hb⟩
  have HS2 := aM' (HS1.out.below hb)
  clear hb q0 q1 q2 z0 z1 z2 pf
  have pf := fun i => blk_frozen HS2.out.h6 i
  have z0 := blk_cell HS2.out.h6 0
  have z1 := blk_cell HS2.out.h6 1
  have z2 := blk_cell HS2.out.h6 2
  simp at z0 z1 z2
  cases h2 : nodeOf wd nr with
  | false =>
   have HI := aM' (show J = (⟨#[]⟩, 0, 0, 70) by rw [HJ.out]; unfold joinI; rw [if_neg (by rw [h2]; simp)])
   have HZ := aM' (HS2.out.put ⟨⟨#[]⟩, ⟨0, 0⟩⟩)
   have y0 := blk_cell HZ.out.h6 0
   have y1 := blk_cell HZ.out.h6 1
   have y2 := blk_cell HZ.out.h6 2
   simp at y0 y1 y2
   clear h2
   go_wp2
   refine bodyPost_ret (v := .tuple #[.agg #[.string ⟨#[]⟩, .int .u64 0, .int .u64 0], .int .i64 70]) ?_ rfl ⟨by rw [HI.out], HZ.out.hB⟩
   simp [results, Tryd.results59, go_sem, hu, y0, y1, y2]
  | true =>
   have H2 := aM' h2
   clear h2
   have x1 := blk_cell HS2.out.h4 1
   have x2 := blk_cell HS2.out.h4 2
   have q1 := blk_cell HS2.out.h5 1
   have q2 := blk_cell HS2.out.h5 2
   simp at x1 x2 q1 q2
   obtain ⟨s0, s1, s2, hs⟩ : ∃ s0 s1 s2, addI128 nl.f1.f0 nl.f1.f1 nr.f1.f0 nr.f1.f1 = (s0, s1, s2) := ⟨_, _, _, rfl⟩
   have HSS := aM' hs
   clear hs
   go_wp2_with fail
   refine (u128_Add.calls nl.f1.f0 nl.f1.f1 nr.f1.f0 nr.f1.f1 s0 s1 s2 _ (by rw [← HSS.out]; exact u128Add_eq _ _ _ _ HL.out.h0 HL.out.h1 HR.out.h0 HR.out.h1)).mono ?_
   rintro e w3 ⟨rfl, hb⟩
   have HS3 := aM' (HS2.out.below hb)
   have hs8 := HS3.out.hB.size
   have hs9 := blk_lt HS3.out.h6
   clear hb x1 x2 q1 q2 pf z0 z1 z2
   obtain ⟨g8, hg8⟩ : ∃ g, g = w3.heap.size := ⟨_, rfl⟩
   obtain ⟨W4, hW4⟩ : ∃ V, V = w3.alloc (.cells #[.int .u64 s0, .int .u64 s1] 34) := ⟨_, rfl⟩
   have HS4 := aM' (show JnB w nl nr ⟨⟨#[]⟩, ⟨0, 0⟩⟩ W4 by rw [hW4]; exact HS3.out.below (below_alloc (Below.refl _ _) _))
   have HG8 := aM' (show g8 ≠ w.heap.size + 1 + 1 by rw [hg8]; omega)
   have H8 := aM' (show W4.heap[g8]? = some (.cells #[.int .u64 s0, .int .u64 s1] 34 (0, 0)) by rw [hW4, hg8]; exact blk_new _ _)
   by_cases h0 : s2 = 0
   ·
    have b0 : (s2 == 0) = true := by simp [h0]
    have HI := aM' (show J = (dgI wd (nodeText nl nr), s0, s1, 0) by rw [HJ.out]; unfold joinI; rw [if_pos ⟨H1.out, H2.out⟩, HSS.out, if_pos h0])
    subst h0
    go_upto_region 4 with (fail)
    rw [← hg8, ← hW4]
    clear hg8 hW4
    obtain ⟨w1', w2', e1⟩ := nodeOf_w H1.out
    obtain ⟨_, _, e2⟩ := nodeOf_w H2.out
    have HT := aM' (show nl.f0.size ≤ 32 ∧ nr.f0.size ≤ 32 by omega)
    have HW := aM' (And.intro w1' w2')
    have p0 := blk_cell HS4.out.h4 0
    have p1 := blk_cell HS4.out.h4 1
    have p2 := blk_cell HS4.out.h4 2
    have q0 := blk_cell HS4.out.h5 0
    have q1 := blk_cell HS4.out.h5 1
    have q2 := blk_cell HS4.out.h5 2
    have a0 := blk_cell H8.out 0
    have a1 := blk_cell H8.out 1
    simp at p0 p1 p2 q0 q1 q2 a0 a1
    obtain ⟨dg, hdg⟩ : ∃ d, d = dgI wd (nodeText nl nr) := ⟨_, rfl⟩
    have HDG := aM' hdg
    clear w1' w2' e1 e2 hdg hs8 hs9 b0
    go_upto_region 6 with (fail)
    refine region_inv (fun l a W => a = ({ tmps := #[.int .i64 wd, .agg #[.string nl.f0, .int .u64 nl.f1.f0, .int .u64 nl.f1.f1], .agg #[.string nr.f0, .int .u64 nr.f1.f0, .int .u64 nr.f1.f1], undef, .pointer (some ⟨w.heap.size, 0, none⟩), .pointer (some ⟨w.heap.size + 1, 0, none⟩), .pointer (some ⟨w.heap.size + 1 + 1, 0, none⟩), sel (l 8) (.int .i64 0) (.int .i64 0), .pointer (some ⟨g8, 0, none⟩), .int .i64 0, .int .i64 wd, .agg #[.string nl.f0, .int .u64 nl.f1.f0, .int .u64 nl.f1.f1], .bool true, .bool false, .bool false, .int .i64 wd, .agg #[.string nr.f0, .int .u64 nr.f1.f0, .int .u64 nr.f1.f1], .bool true, .bool false, .bool false, undef, .tuple #[.agg #[.int .u64 s0, .int .u64 s1], .int .i64 0], .pointer (some ⟨w.heap.size, 1, none⟩), .agg #[.int .u64 nl.f1.f0, .int .u64 nl.f1.f1], .pointer (some ⟨w.heap.size + 1, 1, none⟩), .agg #[.int .u64 nr.f1.f0, .int .u64 nr.f1.f1], .tuple #[.agg #[.int .u64 s0, .int .u64 s1], .int .i64 0], .agg #[.int .u64 s0, .int .u64 s1], .int .i64 0, .int .i64 0, .bool false, undef, sel (l 0) (.int .i64 wd) (undef), sel (l 1) (.agg #[.string nl.f0, .int .u64 nl.f1.f0, .int .u64 nl.f1.f1]) (undef), sel (l 2) (.agg #[.string nr.f0, .int .u64 nr.f1.f0, .int .u64 nr.f1.f1]) (undef), sel (l 3) (.string (nodeText nl nr)) (undef), sel (l 4) (.string dg) (undef), sel (l 5) (.agg #[.int .u64 s0, .int .u64 s1]) (undef), sel (l 6) (.agg #[.string dg, .int .u64 s0, .int .u64 s1]) (undef)], defers := [] } : Act) ∧ (JnB w nl nr (if l 7 = true then ⟨dg, ⟨s0, s1⟩⟩ else ⟨⟨#[]⟩, ⟨0, 0⟩⟩) W ∧ W.heap[g8]? = some (.cells #[.int .u64 s0, .int .u64 s1] 34 (0, 0)))) 9 rfl rfl (by kernel_rfl) ?h0 ?hend ?hstep
    case h0 => exact ⟨rfl, HS4.out.below (below_drew (Below.refl _ _)), blk_drew H8.out⟩
    case hstep =>
     refine rg_cons (rg_cons (rg_cons (rg_cons (rg_cons (rg_cons (rg_cons (rg_cons (rg_cons (rg_nil) ?s0) ?s1) ?s2) ?s3) ?s4) ?s5) ?s6) ?s7) ?s8
     case s0 =>
      refine rg_step rfl ?_
      rintro l a W ⟨rfl, hI⟩ hl hd
      clear hd
      refine rg_val (v := .int .i64 wd) (w' := W) rfl (by go_simp) ?_
      refine ⟨?_, ?_⟩
      ·
       simp only [Act.put, List.setIfInBounds_toArray, List.set_cons_zero, List.set_cons_succ]; rfl
      ·
       exact hI
     case s1 =>
      refine rg_step rfl ?_
      rintro l a W ⟨rfl, hI⟩ hl hd
      clear hd
      have x0 := blk_cell (hI.1.h4) 0
      have x1 := blk_cell (hI.1.h4) 1
      have x2 := blk_cell (hI.1.h4) 2
      simp at x0 x1 x2
      refine rg_val (v := .agg #[.string nl.f0, .int .u64 nl.f1.f0, .int .u64 nl.f1.f1]) (w' := W) rfl (by go_simp) ?_
      refine ⟨?_, ?_⟩
      ·
       simp only [Act.put, List.setIfInBounds_toArray, List.set_cons_zero, List.set_cons_succ]; rfl
      ·
       exact hI
     case s2 =>
      refine rg_step rfl ?_
      rintro l a W ⟨rfl, hI⟩ hl hd
      clear hd
      have x0 := blk_cell (hI.1.h5) 0
      have x1 := blk_cell (hI.1.h5) 1
      have x2 := blk_cell (hI.1.h5) 2
      simp at x0 x1 x2
      refine rg_val (v := .agg #[.string nr.f0, .int .u64 nr.f1.f0, .int .u64 nr.f1.f1]) (w' := W) rfl (by go_simp) ?_
      refine ⟨?_, ?_⟩
      ·
       simp only [Act.put, List.setIfInBounds_toArray, List.set_cons_zero, List.set_cons_succ]; rfl
      ·
       exact hI
     case s3 =>
      refine rg_step rfl ?_
      rintro l a W ⟨rfl, hI⟩ hl hd
      have d1 := hd 1 (by decide)
      have d2 := hd 2 (by decide)
      clear hd
      refine rg_call rfl (by go_simp; exact ⟨rfl, rfl⟩) ?_
      refine (tag_NodeText.calls nl.f0 nl.f1.f0 nl.f1.f1 nr.f0 nr.f1.f0 nr.f1.f1 (nodeText nl nr) _ (tagNodeText_eq nl nr (by have := HT.out; omega) (by have := HT.out; omega))).mono ?_
      rintro x W' ⟨rfl, hb⟩
      refine ⟨_, rfl, ?_, ?_⟩
      ·
       simp only [Act.put, List.setIfInBounds_toArray, List.set_cons_zero, List.set_cons_succ]; rfl
      ·
       exact ⟨hI.1.below hb, blk_below hI.2 hb⟩
     case s4 =>
      refine rg_step rfl ?_
      rintro l a W ⟨rfl, hI⟩ hl hd
      have d0 := hd 0 (by decide)
      have d3 := hd 3 (by decide)
      clear hd
      refine rg_call rfl (by go_simp; exact ⟨rfl, rfl⟩) ?_
      refine (tag_Digest.calls wd (nodeText nl nr) dg _ (HK.out.below hI.1.hB) (by rw [HDG.out]; exact tagDigest_eq wd _ HW.out.1 HW.out.2 (by rw [nodeText_size]; have := HT.out; omega))).mono ?_
      rintro x W' ⟨rfl, hb⟩
      refine ⟨_, rfl, ?_, ?_⟩
      ·
       simp only [Act.put, List.setIfInBounds_toArray, List.set_cons_zero, List.set_cons_succ]; rfl
      ·
       exact ⟨hI.1.below hb, blk_below hI.2 hb⟩
     case s5 =>
      refine rg_step rfl ?_
      rintro l a W ⟨rfl, hI⟩ hl hd
      clear hd
      have x0 := blk_cell (hI.2) 0
      have x1 := blk_cell (hI.2) 1
      simp at x0 x1
      refine rg_val (v := .agg #[.int .u64 s0, .int .u64 s1]) (w' := W) rfl (by go_simp) ?_
      refine ⟨?_, ?_⟩
      ·
       simp only [Act.put, List.setIfInBounds_toArray, List.set_cons_zero, List.set_cons_succ]; rfl
      ·
       exact hI
     case s6 =>
      refine rg_step rfl ?_
      rintro l a W ⟨rfl, hI⟩ hl hd
      have d4 := hd 4 (by decide)
      have d5 := hd 5 (by decide)
      clear hd
      refine rg_val (v := .agg #[.string dg, .int .u64 s0, .int .u64 s1]) (w' := W) rfl (by go_simp) ?_
      refine ⟨?_, ?_⟩
      ·
       simp only [Act.put, List.setIfInBounds_toArray, List.set_cons_zero, List.set_cons_succ]; rfl
      ·
       exact hI
     case s7 =>
      refine rg_step rfl ?_
      rintro l a W ⟨rfl, hI⟩ hl hd
      have d6 := hd 6 (by decide)
      clear hd
      have hz := hI.1
      rw [if_neg (by rw [hl]; decide)] at hz
      have pf := fun i => blk_frozen hz.h6 i
      have z0 := blk_cell hz.h6 0
      have z1 := blk_cell hz.h6 1
      have z2 := blk_cell hz.h6 2
      simp at z0 z1 z2
      refine rg_skip rfl (by go_simp; rfl) ?_
      refine ⟨?_, ?_⟩
      ·
       simp only [Act.put, List.setIfInBounds_toArray, List.set_cons_zero, List.set_cons_succ]; rfl
      ·
       exact ⟨hz.put ⟨dg, ⟨s0, s1⟩⟩, blk_far (blk_far (blk_far hI.2 (by exact HG8.out) _) (by exact HG8.out) _) (by exact HG8.out) _⟩
     case s8 =>
      refine rg_step rfl ?_
      rintro l a W ⟨rfl, hI⟩ hl hd
      clear hd
      refine rg_val (v := .int .i64 0) (w' := W) rfl (by go_simp) ?_
      refine ⟨?_, ?_⟩
      ·
       simp only [Act.put, List.setIfInBounds_toArray, List.set_cons_zero, List.set_cons_succ]; rfl
      ·
       exact hI
    case hend =>
     rintro l a W ⟨rfl, hI⟩ hall
     have e0 := hall 0 (by decide)
     have e1 := hall 1 (by decide)
     have e2 := hall 2 (by decide)
     have e3 := hall 3 (by decide)
     have e4 := hall 4 (by decide)
     have e5 := hall 5 (by decide)
     have e6 := hall 6 (by decide)
     have e7 := hall 7 (by decide)
     have e8 := hall 8 (by decide)
     clear hall
     have e7' := e7
     simp only [e0, e1, e2, e3, e4, e5, e6, e7, e8, sel_true]
     clear e0 e1 e2 e3 e4 e5 e6 e7 e8
     have hn := hI.1
     rw [if_pos e7'] at hn
     have y0 := blk_cell hn.h6 0
     have y1 := blk_cell hn.h6 1
     have y2 := blk_cell hn.h6 2
     simp at y0 y1 y2
     clear hn
     have HBF := aM' hI.1.hB
     clear hI e7'
     go_wp2
     refine bodyPost_ret (v := .tuple #[.agg #[.string dg, .int .u64 s0, .int .u64 s1], .int .i64 0]) ?_ rfl ⟨by rw [HI.out, HDG.out], HBF.out⟩
     simp [results, Tryd.results59, go_sem, hu, y0, y1, y2]
   ·
    have b0 : (s2 == 0) = false := by simp [h0]
    have HI := aM' (show J = (⟨#[]⟩, 0, 0, 10) by rw [HJ.out]; unfold joinI; rw [if_pos ⟨H1.out, H2.out⟩, HSS.out, if_neg h0])
    have HZ := aM' (HS4.out.put ⟨⟨#[]⟩, ⟨0, 0⟩⟩)
    have z0 := blk_cell HS4.out.h6 0
    have z1 := blk_cell HS4.out.h6 1
    have z2 := blk_cell HS4.out.h6 2
    have pf := fun i => blk_frozen HS4.out.h6 i
    have y0 := blk_cell HZ.out.h6 0
    have y1 := blk_cell HZ.out.h6 1
    have y2 := blk_cell HZ.out.h6 2
    simp at y0 y1 y2 z0 z1 z2
    clear h0 hs8 hs9
    go_upto_region 4 with (fail)
    rw [← hg8, ← hW4]
    clear hg8 hW4
    go_wp2
    refine bodyPost_ret (v := .tuple #[.agg #[.string ⟨#[]⟩, .int .u64 0, .int .u64 0], .int .i64 10]) ?_ rfl ⟨by rw [HI.out], HZ.out.hB⟩
    simp [results, Tryd.results59, go_sem, hu, y0, y1, y2]
def node_Join.f (k : Nat) (a0 : Int) (a1_0 : ByteArray) (a1_1 : Int) (a1_2 : Int) (a2_0 : ByteArray) (a2_1 : Int) (a2_2 : Int) : Option (ByteArray × Int × Int × Int) :=
 if ((0 ≤ a1_1 ∧ a1_1 < 18446744073709551616) ∧ (0 ≤ a1_2 ∧ a1_2 < 18446744073709551616)) ∧ ((0 ≤ a2_1 ∧ a2_1 < 18446744073709551616) ∧ (0 ≤ a2_2 ∧ a2_2 < 18446744073709551616)) then some (joinI a0 ⟨a1_0, ⟨a1_1, a1_2⟩⟩ ⟨a2_0, ⟨a2_1, a2_2⟩⟩) else none
theorem node_Join.calls (k : Nat) (a0 : Int) (a1_0 : ByteArray) (a1_1 : Int) (a1_2 : Int) (a2_0 : ByteArray) (a2_1 : Int) (a2_2 : Int) (r1 : ByteArray) (r2 : Int) (r3 : Int) (r4 : Int) (w : World) (hK : Laid w) (h : node_Join.f k a0 a1_0 a1_1 a1_2 a2_0 a2_1 a2_2 = some (r1, r2, r3, r4)) :
  Calls Tryd.prog 59 #[.int .i64 a0, .agg #[.string a1_0, .int .u64 a1_1, .int .u64 a1_2], .agg #[.string a2_0, .int .u64 a2_1, .int .u64 a2_2]] w fun e w' => e = .returned (.tuple #[.agg #[.string r1, .int .u64 r2, .int .u64 r3], .int .i64 r4]) ∧ Below w.heap.size w w' := by
 unfold node_Join.f at h
 split at h
 ·
  next hh =>
  have q := node_Join.walk a0 ⟨a1_0, ⟨a1_1, a1_2⟩⟩ ⟨a2_0, ⟨a2_1, a2_2⟩⟩ w hK ⟨hh.1.1, hh.1.2⟩ ⟨hh.2.1, hh.2.2⟩
  rw [Option.some.inj h] at q
  exact q
 ·
  cases h
theorem join_ev (w : Int) (l r : SNode) (ul : OkU l.f1) (ur : OkU r.f1) : Ev (fun k => node_Join.f k w l.f0 l.f1.f0 l.f1.f1 r.f0 r.f1.f0 r.f1.f1) (joinI w l r) := by
 unfold node_Join.f
 exact Ev.congr (fun k => if_pos ⟨⟨ul.h0, ul.h1⟩, ⟨ur.h0, ur.h1⟩⟩) (Ev.now _)
set_option maxRecDepth 100000 in
set_option maxHeartbeats 1000000 in
theorem paymasterref14_Join.walk (wd : Int) (nl nr : SNode) (w : World) (hu1 : OkU nl.f1) (hu2 : OkU nr.f1) :
  Calls Tryd.prog 98 #[.int .i64 wd, .agg #[.string nl.f0, .int .u64 nl.f1.f0, .int .u64 nl.f1.f1], .agg #[.string nr.f0, .int .u64 nr.f1.f0, .int .u64 nr.f1.f1]] w fun e w' => e = .returned (.tuple #[.agg #[.string (joinI wd nl nr).1, .int .u64 (joinI wd nl nr).2.1, .int .u64 (joinI wd nl nr).2.2.1], .int .i64 (joinI wd nl nr).2.2.2]) ∧ Below w.heap.size w w' := by
 obtain ⟨J, hJ⟩ : ∃ J, J = joinI wd nl nr := ⟨_, rfl⟩
 rw [← hJ]
 have HJ := aM' hJ
 clear hJ
 have hu := Tryd.underlying46
 have hu3 := Tryd.underlying34
 have HS := aM' (JnB.start w nl nr)
 obtain ⟨k1, hk1⟩ := (refAdd_ev _ _ _ _ hu1.h0 hu1.h1 hu2.h0 hu2.h1).rounds
 have HK1 := aM' hk1
 clear hk1
 obtain ⟨W0, hW0⟩ : ∃ V, V = ((w.alloc (.cells #[.string nl.f0, .int .u64 nl.f1.f0, .int .u64 nl.f1.f1] 46)).alloc (.cells #[.string nr.f0, .int .u64 nr.f1.f0, .int .u64 nr.f1.f1] 46)).alloc (.cells #[.string ⟨#[]⟩, .int .u64 0, .int .u64 0] 46) := ⟨_, rfl⟩
 rw [← hW0] at HS
 have HL := aM' hu1
 have HR := aM' hu2
 clear hu1 hu2
 have p0 := blk_cell HS.out.h4 0
 have p1 := blk_cell HS.out.h4 1
 have p2 := blk_cell HS.out.h4 2
 simp at p0 p1 p2
 go_enter Tryd.func98, Tryd.ntmps98
 go_wp2_with fail
 rw [← hW0]
 clear hW0
 refine (paymasterref14_Of.calls wd nl.f0 nl.f1.f0 nl.f1.f1 (nodeOf wd nl) _ (ref14Of_eq wd nl)).mono ?_
 rintro e w1 ⟨rfl, hb⟩
 have HS1 := aM' (HS.out.below hb)
 clear hb p0 p1 p2
 have p0 := fun i => blk_cell HS1.out.h6 i
 have pf := fun i => blk_frozen HS1.out.h6 i
 have q0 := blk_cell HS1.out.h5 0
 have q1 := blk_cell HS1.out.h5 1
 have q2 := blk_cell HS1.out.h5 2
 simp at q0 q1 q2
 have z0 := p0 0
 have z1 := p0 1
 have z2 := p0 2
 simp at z0 z1 z2
 clear p0
 cases h1 : nodeOf wd nl with
 | false =>
  have HI := aM' (show J = (⟨#[]⟩, 0, 0, 70) by rw [HJ.out]; unfold joinI; rw [if_neg (by rw [h1]; simp)])
  have HZ := aM' (HS1.out.put ⟨⟨#[]⟩, ⟨0, 0⟩⟩)
  have y0 := blk_cell HZ.out.h6 0
  have y1 := blk_cell HZ.out.h6 1
  have y2 := blk_cell HZ.out.h6 2
  simp at y0 y1 y2
  clear h1
  go_wp2
  refine bodyPost_ret (v := .tuple #[.agg #[.string ⟨#[]⟩, .int .u64 0, .int .u64 0], .int .i64 70]) ?_ rfl ⟨by rw [HI.out], HZ.out.hB⟩
  simp [results, Tryd.results98, go_sem, hu, y0, y1, y2]
 | true =>
  have H1 := aM' h1
  clear h1
  go_wp2_with fail
  refine (paymasterref14_Of.calls wd nr.f0 nr.f1.f0 nr.f1.f1 (nodeOf wd nr) _ (ref14Of_eq wd nr)).mono ?_
  rintro e w2 ⟨rfl, hb⟩
  have HS2 := aM' (HS1.out.below hb)
  clear hb q0 q1 q2 z0 z1 z2 pf
  have pf := fun i => blk_frozen HS2.out.h6 i
  have z0 := blk_cell HS2.out.h6 0
  have z1 := blk_cell HS2.out.h6 1
  have z2 := blk_cell HS2.out.h6 2
  simp at z0 z1 z2
  cases h2 : nodeOf wd nr with
  | false =>
   have HI := aM' (show J = (⟨#[]⟩, 0, 0, 70) by rw [HJ.out]; unfold joinI; rw [if_neg (by rw [h2]; simp)])
   have HZ := aM' (HS2.out.put ⟨⟨#[]⟩, ⟨0, 0⟩⟩)
   have y0 := blk_cell HZ.out.h6 0
   have y1 := blk_cell HZ.out.h6 1
   have y2 := blk_cell HZ.out.h6 2
   simp at y0 y1 y2
   clear h2
   go_wp2
   refine bodyPost_ret (v := .tuple #[.agg #[.string ⟨#[]⟩, .int .u64 0, .int .u64 0], .int .i64 70]) ?_ rfl ⟨by rw [HI.out], HZ.out.hB⟩
   simp [results, Tryd.results98, go_sem, hu, y0, y1, y2]
  | true =>
   have H2 := aM' h2
   clear h2
   have x1 := blk_cell HS2.out.h4 1
   have x2 := blk_cell HS2.out.h4 2
   have q1 := blk_cell HS2.out.h5 1
   have q2 := blk_cell HS2.out.h5 2
   simp at x1 x2 q1 q2
   obtain ⟨s0, s1, s2, hs⟩ : ∃ s0 s1 s2, addI128 nl.f1.f0 nl.f1.f1 nr.f1.f0 nr.f1.f1 = (s0, s1, s2) := ⟨_, _, _, rfl⟩
   have HSS := aM' hs
   clear hs
   go_wp2_with fail
   refine (paymasterref01_Add.calls k1 nl.f1.f0 nl.f1.f1 nr.f1.f0 nr.f1.f1 s0 s1 s2 _ (by rw [← HSS.out]; exact HK1.out)).mono ?_
   rintro e w3 ⟨rfl, hb⟩
   have HS3 := aM' (HS2.out.below hb)
   have hs8 := HS3.out.hB.size
   have hs9 := blk_lt HS3.out.h6
   clear hb x1 x2 q1 q2 pf z0 z1 z2
   obtain ⟨g8, hg8⟩ : ∃ g, g = w3.heap.size := ⟨_, rfl⟩
   obtain ⟨W4, hW4⟩ : ∃ V, V = w3.alloc (.cells #[.int .u64 s0, .int .u64 s1] 34) := ⟨_, rfl⟩
   have HS4 := aM' (show JnB w nl nr ⟨⟨#[]⟩, ⟨0, 0⟩⟩ W4 by rw [hW4]; exact HS3.out.below (below_alloc (Below.refl _ _) _))
   have HG8 := aM' (show g8 ≠ w.heap.size + 1 + 1 by rw [hg8]; omega)
   have H8 := aM' (show W4.heap[g8]? = some (.cells #[.int .u64 s0, .int .u64 s1] 34 (0, 0)) by rw [hW4, hg8]; exact blk_new _ _)
   by_cases h0 : s2 = 0
   ·
    have b0 : (s2 == 0) = true := by simp [h0]
    have HI := aM' (show J = (dgI wd (nodeText nl nr), s0, s1, 0) by rw [HJ.out]; unfold joinI; rw [if_pos ⟨H1.out, H2.out⟩, HSS.out, if_pos h0])
    subst h0
    go_upto_region 4 with (fail)
    rw [← hg8, ← hW4]
    clear hg8 hW4
    obtain ⟨w1', w2', e1⟩ := nodeOf_w H1.out
    obtain ⟨_, _, e2⟩ := nodeOf_w H2.out
    have HT := aM' (show nl.f0.size ≤ 32 ∧ nr.f0.size ≤ 32 by omega)
    have HW := aM' (And.intro w1' w2')
    have p0 := blk_cell HS4.out.h4 0
    have p1 := blk_cell HS4.out.h4 1
    have p2 := blk_cell HS4.out.h4 2
    have q0 := blk_cell HS4.out.h5 0
    have q1 := blk_cell HS4.out.h5 1
    have q2 := blk_cell HS4.out.h5 2
    have a0 := blk_cell H8.out 0
    have a1 := blk_cell H8.out 1
    simp at p0 p1 p2 q0 q1 q2 a0 a1
    obtain ⟨k2, hk2⟩ := (refNodeText_ev nl nr (by omega) (by omega) HL.out HR.out).rounds
    have HK2 := aM' hk2
    clear hk2
    obtain ⟨dg, hdg⟩ : ∃ d, d = dgI wd (nodeText nl nr) := ⟨_, rfl⟩
    have HDG := aM' hdg
    clear w1' w2' e1 e2 hdg hs8 hs9 b0
    go_upto_region 6 with (fail)
    refine region_inv (fun l a W => a = ({ tmps := #[.int .i64 wd, .agg #[.string nl.f0, .int .u64 nl.f1.f0, .int .u64 nl.f1.f1], .agg #[.string nr.f0, .int .u64 nr.f1.f0, .int .u64 nr.f1.f1], undef, .pointer (some ⟨w.heap.size, 0, none⟩), .pointer (some ⟨w.heap.size + 1, 0, none⟩), .pointer (some ⟨w.heap.size + 1 + 1, 0, none⟩), sel (l 8) (.int .i64 0) (.int .i64 0), .pointer (some ⟨g8, 0, none⟩), .int .i64 0, .int .i64 wd, .agg #[.string nl.f0, .int .u64 nl.f1.f0, .int .u64 nl.f1.f1], .bool true, .bool false, .bool false, .int .i64 wd, .agg #[.string nr.f0, .int .u64 nr.f1.f0, .int .u64 nr.f1.f1], .bool true, .bool false, .bool false, undef, .tuple #[.agg #[.int .u64 s0, .int .u64 s1], .int .i64 0], .pointer (some ⟨w.heap.size, 1, none⟩), .agg #[.int .u64 nl.f1.f0, .int .u64 nl.f1.f1], .pointer (some ⟨w.heap.size + 1, 1, none⟩), .agg #[.int .u64 nr.f1.f0, .int .u64 nr.f1.f1], .tuple #[.agg #[.int .u64 s0, .int .u64 s1], .int .i64 0], .agg #[.int .u64 s0, .int .u64 s1], .int .i64 0, .int .i64 0, .bool false, undef, sel (l 0) (.int .i64 wd) (undef), sel (l 1) (.agg #[.string nl.f0, .int .u64 nl.f1.f0, .int .u64 nl.f1.f1]) (undef), sel (l 2) (.agg #[.string nr.f0, .int .u64 nr.f1.f0, .int .u64 nr.f1.f1]) (undef), sel (l 3) (.string (nodeText nl nr)) (undef), sel (l 4) (.string dg) (undef), sel (l 5) (.agg #[.int .u64 s0, .int .u64 s1]) (undef), sel (l 6) (.agg #[.string dg, .int .u64 s0, .int .u64 s1]) (undef)], defers := [] } : Act) ∧ (JnB w nl nr (if l 7 = true then ⟨dg, ⟨s0, s1⟩⟩ else ⟨⟨#[]⟩, ⟨0, 0⟩⟩) W ∧ W.heap[g8]? = some (.cells #[.int .u64 s0, .int .u64 s1] 34 (0, 0)))) 9 rfl rfl (by kernel_rfl) ?h0 ?hend ?hstep
    case h0 => exact ⟨rfl, HS4.out.below (below_drew (Below.refl _ _)), blk_drew H8.out⟩
    case hstep =>
     refine rg_cons (rg_cons (rg_cons (rg_cons (rg_cons (rg_cons (rg_cons (rg_cons (rg_cons (rg_nil) ?s0) ?s1) ?s2) ?s3) ?s4) ?s5) ?s6) ?s7) ?s8
     case s0 =>
      refine rg_step rfl ?_
      rintro l a W ⟨rfl, hI⟩ hl hd
      clear hd
      refine rg_val (v := .int .i64 wd) (w' := W) rfl (by go_simp) ?_
      refine ⟨?_, ?_⟩
      ·
       simp only [Act.put, List.setIfInBounds_toArray, List.set_cons_zero, List.set_cons_succ]; rfl
      ·
       exact hI
     case s1 =>
      refine rg_step rfl ?_
      rintro l a W ⟨rfl, hI⟩ hl hd
      clear hd
      have x0 := blk_cell (hI.1.h4) 0
      have x1 := blk_cell (hI.1.h4) 1
      have x2 := blk_cell (hI.1.h4) 2
      simp at x0 x1 x2
      refine rg_val (v := .agg #[.string nl.f0, .int .u64 nl.f1.f0, .int .u64 nl.f1.f1]) (w' := W) rfl (by go_simp) ?_
      refine ⟨?_, ?_⟩
      ·
       simp only [Act.put, List.setIfInBounds_toArray, List.set_cons_zero, List.set_cons_succ]; rfl
      ·
       exact hI
     case s2 =>
      refine rg_step rfl ?_
      rintro l a W ⟨rfl, hI⟩ hl hd
      clear hd
      have x0 := blk_cell (hI.1.h5) 0
      have x1 := blk_cell (hI.1.h5) 1
      have x2 := blk_cell (hI.1.h5) 2
      simp at x0 x1 x2
      refine rg_val (v := .agg #[.string nr.f0, .int .u64 nr.f1.f0, .int .u64 nr.f1.f1]) (w' := W) rfl (by go_simp) ?_
      refine ⟨?_, ?_⟩
      ·
       simp only [Act.put, List.setIfInBounds_toArray, List.set_cons_zero, List.set_cons_succ]; rfl
      ·
       exact hI
     case s3 =>
      refine rg_step rfl ?_
      rintro l a W ⟨rfl, hI⟩ hl hd
      have d1 := hd 1 (by decide)
      have d2 := hd 2 (by decide)
      clear hd
      refine rg_call rfl (by go_simp; exact ⟨rfl, rfl⟩) ?_
      refine (paymasterref07_NodeText.calls k2 nl.f0 nl.f1.f0 nl.f1.f1 nr.f0 nr.f1.f0 nr.f1.f1 (nodeText nl nr) _ HK2.out).mono ?_
      rintro x W' ⟨rfl, hb⟩
      refine ⟨_, rfl, ?_, ?_⟩
      ·
       simp only [Act.put, List.setIfInBounds_toArray, List.set_cons_zero, List.set_cons_succ]; rfl
      ·
       exact ⟨hI.1.below hb, blk_below hI.2 hb⟩
     case s4 =>
      refine rg_step rfl ?_
      rintro l a W ⟨rfl, hI⟩ hl hd
      have d0 := hd 0 (by decide)
      have d3 := hd 3 (by decide)
      clear hd
      refine rg_call rfl (by go_simp; exact ⟨rfl, rfl⟩) ?_
      refine (paymasterref07_Digest.calls wd (nodeText nl nr) dg _ (by rw [HDG.out]; exact refDigest_eq wd _ HW.out.1 HW.out.2 (by rw [nodeText_size]; have := HT.out; omega))).mono ?_
      rintro x W' ⟨rfl, hb⟩
      refine ⟨_, rfl, ?_, ?_⟩
      ·
       simp only [Act.put, List.setIfInBounds_toArray, List.set_cons_zero, List.set_cons_succ]; rfl
      ·
       exact ⟨hI.1.below hb, blk_below hI.2 hb⟩
     case s5 =>
      refine rg_step rfl ?_
      rintro l a W ⟨rfl, hI⟩ hl hd
      clear hd
      have x0 := blk_cell (hI.2) 0
      have x1 := blk_cell (hI.2) 1
      simp at x0 x1
      refine rg_val (v := .agg #[.int .u64 s0, .int .u64 s1]) (w' := W) rfl (by go_simp) ?_
      refine ⟨?_, ?_⟩
      ·
       simp only [Act.put, List.setIfInBounds_toArray, List.set_cons_zero, List.set_cons_succ]; rfl
      ·
       exact hI
     case s6 =>
      refine rg_step rfl ?_
      rintro l a W ⟨rfl, hI⟩ hl hd
      have d4 := hd 4 (by decide)
      have d5 := hd 5 (by decide)
      clear hd
      refine rg_val (v := .agg #[.string dg, .int .u64 s0, .int .u64 s1]) (w' := W) rfl (by go_simp) ?_
      refine ⟨?_, ?_⟩
      ·
       simp only [Act.put, List.setIfInBounds_toArray, List.set_cons_zero, List.set_cons_succ]; rfl
      ·
       exact hI
     case s7 =>
      refine rg_step rfl ?_
      rintro l a W ⟨rfl, hI⟩ hl hd
      have d6 := hd 6 (by decide)
      clear hd
      have hz := hI.1
      rw [if_neg (by rw [hl]; decide)] at hz
      have pf := fun i => blk_frozen hz.h6 i
      have z0 := blk_cell hz.h6 0
      have z1 := blk_cell hz.h6 1
      have z2 := blk_cell hz.h6 2
      simp at z0 z1 z2
      refine rg_skip rfl (by go_simp; rfl) ?_
      refine ⟨?_, ?_⟩
      ·
       simp only [Act.put, List.setIfInBounds_toArray, List.set_cons_zero, List.set_cons_succ]; rfl
      ·
       exact ⟨hz.put ⟨dg, ⟨s0, s1⟩⟩, blk_far (blk_far (blk_far hI.2 (by exact HG8.out) _) (by exact HG8.out) _) (by exact HG8.out) _⟩
     case s8 =>
      refine rg_step rfl ?_
      rintro l a W ⟨rfl, hI⟩ hl hd
      clear hd
      refine rg_val (v := .int .i64 0) (w' := W) rfl (by go_simp) ?_
      refine ⟨?_, ?_⟩
      ·
       simp only [Act.put, List.setIfInBounds_toArray, List.set_cons_zero, List.set_cons_succ]; rfl
      ·
       exact hI
    case hend =>
     rintro l a W ⟨rfl, hI⟩ hall
     have e0 := hall 0 (by decide)
     have e1 := hall 1 (by decide)
     have e2 := hall 2 (by decide)
     have e3 := hall 3 (by decide)
     have e4 := hall 4 (by decide)
     have e5 := hall 5 (by decide)
     have e6 := hall 6 (by decide)
     have e7 := hall 7 (by decide)
     have e8 := hall 8 (by decide)
     clear hall
     have e7' := e7
     simp only [e0, e1, e2, e3, e4, e5, e6, e7, e8, sel_true]
     clear e0 e1 e2 e3 e4 e5 e6 e7 e8
     have hn := hI.1
     rw [if_pos e7'] at hn
     have y0 := blk_cell hn.h6 0
     have y1 := blk_cell hn.h6 1
     have y2 := blk_cell hn.h6 2
     simp at y0 y1 y2
     clear hn
     have HBF := aM' hI.1.hB
     clear hI e7'
     go_wp2
     refine bodyPost_ret (v := .tuple #[.agg #[.string dg, .int .u64 s0, .int .u64 s1], .int .i64 0]) ?_ rfl ⟨by rw [HI.out, HDG.out], HBF.out⟩
     simp [results, Tryd.results98, go_sem, hu, y0, y1, y2]
   ·
    have b0 : (s2 == 0) = false := by simp [h0]
    have HI := aM' (show J = (⟨#[]⟩, 0, 0, 10) by rw [HJ.out]; unfold joinI; rw [if_pos ⟨H1.out, H2.out⟩, HSS.out, if_neg h0])
    have HZ := aM' (HS4.out.put ⟨⟨#[]⟩, ⟨0, 0⟩⟩)
    have z0 := blk_cell HS4.out.h6 0
    have z1 := blk_cell HS4.out.h6 1
    have z2 := blk_cell HS4.out.h6 2
    have pf := fun i => blk_frozen HS4.out.h6 i
    have y0 := blk_cell HZ.out.h6 0
    have y1 := blk_cell HZ.out.h6 1
    have y2 := blk_cell HZ.out.h6 2
    simp at y0 y1 y2 z0 z1 z2
    clear h0 hs8 hs9
    go_upto_region 4 with (fail)
    rw [← hg8, ← hW4]
    clear hg8 hW4
    go_wp2
    refine bodyPost_ret (v := .tuple #[.agg #[.string ⟨#[]⟩, .int .u64 0, .int .u64 0], .int .i64 10]) ?_ rfl ⟨by rw [HI.out], HZ.out.hB⟩
    simp [results, Tryd.results98, go_sem, hu, y0, y1, y2]
def paymasterref14_Join.f (k : Nat) (a0 : Int) (a1_0 : ByteArray) (a1_1 : Int) (a1_2 : Int) (a2_0 : ByteArray) (a2_1 : Int) (a2_2 : Int) : Option (ByteArray × Int × Int × Int) :=
 if ((0 ≤ a1_1 ∧ a1_1 < 18446744073709551616) ∧ (0 ≤ a1_2 ∧ a1_2 < 18446744073709551616)) ∧ ((0 ≤ a2_1 ∧ a2_1 < 18446744073709551616) ∧ (0 ≤ a2_2 ∧ a2_2 < 18446744073709551616)) then some (joinI a0 ⟨a1_0, ⟨a1_1, a1_2⟩⟩ ⟨a2_0, ⟨a2_1, a2_2⟩⟩) else none
theorem paymasterref14_Join.calls (k : Nat) (a0 : Int) (a1_0 : ByteArray) (a1_1 : Int) (a1_2 : Int) (a2_0 : ByteArray) (a2_1 : Int) (a2_2 : Int) (r1 : ByteArray) (r2 : Int) (r3 : Int) (r4 : Int) (w : World) (h : paymasterref14_Join.f k a0 a1_0 a1_1 a1_2 a2_0 a2_1 a2_2 = some (r1, r2, r3, r4)) :
  Calls Tryd.prog 98 #[.int .i64 a0, .agg #[.string a1_0, .int .u64 a1_1, .int .u64 a1_2], .agg #[.string a2_0, .int .u64 a2_1, .int .u64 a2_2]] w fun e w' => e = .returned (.tuple #[.agg #[.string r1, .int .u64 r2, .int .u64 r3], .int .i64 r4]) ∧ Below w.heap.size w w' := by
 unfold paymasterref14_Join.f at h
 split at h
 ·
  next hh =>
  have q := paymasterref14_Join.walk a0 ⟨a1_0, ⟨a1_1, a1_2⟩⟩ ⟨a2_0, ⟨a2_1, a2_2⟩⟩ w ⟨hh.1.1, hh.1.2⟩ ⟨hh.2.1, hh.2.2⟩
  rw [Option.some.inj h] at q
  exact q
 ·
  cases h
theorem refJoin_ev (w : Int) (l r : SNode) (ul : OkU l.f1) (ur : OkU r.f1) : Ev (fun k => paymasterref14_Join.f k w l.f0 l.f1.f0 l.f1.f1 r.f0 r.f1.f0 r.f1.f1) (joinI w l r) := by
 unfold paymasterref14_Join.f
 exact Ev.congr (fun k => if_pos ⟨⟨ul.h0, ul.h1⟩, ⟨ur.h0, ur.h1⟩⟩) (Ev.now _)
end Go.Proofs.YtfcodmdckcihmaaDoor.P
namespace Go.Proofs.YtfcodmdckcihmaaDoor.P
open Go.RowKit Go.Proofs.YtfcodmdckcihmaaDoorW.PrintWords Go.Proofs.YtfcodmdckcihmaaDoorW.PrintLast Go.Proofs.YtfcodmdckcihmaaDoorW.PrintMore
set_option linter.unusedVariables false
set_option linter.unusedSimpArgs false
set_option linter.unnecessarySimpa false
theorem refMayLeaf_ev (l : SLeaf) (hid : l.f1.size ≤ 1000000) : Ev (fun k => paymasterref07_MayLeaf.f k l.f0 l.f1 l.f2 l.f3.f0 l.f3.f1) (mayLeafI l) := by
 unfold paymasterref07_MayLeaf.f mayLeafI
 have hd : ∀ b : Bool, decide ((l.f2.size : Int) ≤ 32) = decide (¬ 32 < l.f2.size) := fun _ => decide_eq_decide.2 (by omega)
 cases l.f0 with
 | true =>
  simp only [if_true]
  refine Ev.some_ (fun k => ?_)
  by_cases h2 : l.f1.toList = []
  ·
   rw [if_pos h2]
   cases hb : (l.f3.f0 == 0) <;> cases hc : (l.f3.f1 == 0)
   ·
    rw [if_pos (by simp)]; simp [h2]
   ·
    rw [if_pos (by simp)]; simp [h2]
   ·
    rw [if_pos (by simp)]; simp [h2]
   ·
    rw [if_neg (by simp), hd true]; simp [h2]; by_cases h1 : 32 < l.f2.size <;> simp [h1] <;> omega
  ·
   rw [if_neg h2]; simp [h2]
 | false =>
  simp only [Bool.false_eq_true, if_false]
  refine Ev.bind (refMayId_ev l.f1 hid) ?_
  refine Ev.some_ (fun k => ?_)
  cases mayIdI l.f1 with
  | true => rw [if_pos rfl, hd true]; by_cases h1 : 32 < l.f2.size <;> simp [h1] <;> omega
  | false => simp
theorem tagLeafText_eq (l : SLeaf) (hid : l.f1.size ≤ 1000000) (hsa : l.f2.size ≤ 1000000) : tag_LeafText.f l.f0 l.f1 l.f2 l.f3.f0 l.f3.f1 = some (leafTextI l) := by
 unfold tag_LeafText.f
 rw [if_pos ⟨hid, hsa⟩]
theorem strOfNums_cons (x : Int) (l : List Int) : strOfNums (x :: l) = strOfNums [x] ++ strOfNums l := by
 apply ByteArray.ext
 simp [strOfNums]
theorem refLeafText_ev (l : SLeaf) (hid : l.f1.size ≤ 1000000) (hsa : l.f2.size ≤ 1000000) (ub : OkU l.f3) : Ev (fun k => paymasterref07_LeafText.f k l.f0 l.f1 l.f2 l.f3.f0 l.f3.f1) (leafTextI l) := by
 unfold paymasterref07_LeafText.f leafTextI
 have z : ∀ x : Int, (strOfNums [x]).size = 1 := fun x => by rw [strOfNums_size]; rfl
 have z2 : ∀ x y : Int, (strOfNums [x, y]).size = 2 := fun x y => by rw [strOfNums_size]; rfl
 refine Ev.bind (refMayLeaf_ev l hid) ?_
 cases mayLeafI l with
 | false => exact Ev.some_ (fun k => by simp)
 | true =>
  simp only [Option.bind_some, if_true]
  refine Ev.congr (fun k => by rw [if_pos (by rw [z]; omega)]) ?_
  cases l.f0 with
  | true =>
   simp only [if_true]
   refine Ev.some_ (fun k => ?_)
   rw [if_pos (by simp only [ByteArray.size_append, z]; omega)]
   rfl
  | false =>
   simp only [Bool.false_eq_true, if_false]
   refine Ev.congr (fun k => by rw [if_pos (by rw [z2]; omega), if_pos (by simp only [ByteArray.size_append, z, z2]; omega)]) ?_
   refine Ev.bind (refBytes_ev _ _ ub.h0 ub.h1) ?_
   refine Ev.some_ (fun k => ?_)
   rw [if_pos (by simp only [ByteArray.size_append, z, z2, u128B_size]; omega), strOfNums_cons 0]
   simp only [szI, ByteArray.append_assoc]
def leafNodeI (w : Int) (l : SLeaf) : SNode := if (1 ≤ w ∧ w ≤ 32) ∧ mayLeafI l = true then ⟨dgI w (leafTextI l), l.f3⟩ else ⟨⟨#[]⟩, ⟨0, 0⟩⟩
theorem leafTextI_size (l : SLeaf) (hid : l.f1.size ≤ 1000000) (hsa : l.f2.size ≤ 1000000) : (leafTextI l).size ≤ 3000000 := by
 have z : ∀ x : Int, (strOfNums [x]).size = 1 := fun x => by rw [strOfNums_size]; rfl
 unfold leafTextI
 split
 ·
  split
  ·
   simp only [ByteArray.size_append, z, szI_size]; omega
  ·
   simp only [ByteArray.size_append, z, szI_size, u128B_size]; omega
 ·
  decide
abbrev nodeT (n : SNode) : ByteArray × Int × Int := (n.f0, n.f1.f0, n.f1.f1)
theorem tagLeafNode_ev (w : Int) (l : SLeaf) (hid : l.f1.size ≤ 1000000) (hsa : l.f2.size ≤ 1000000) : Ev (fun k => tag_LeafNode.f k w l.f0 l.f1 l.f2 l.f3.f0 l.f3.f1) (nodeT (leafNodeI w l)) := by
 unfold tag_LeafNode.f tag_MayWidth.f leafNodeI
 rw [tagMayLeaf_eq l hid]
 have hj : ∀ b : Bool, b = true → Ev (fun k => tag_LeafNode.j0 k w b l.f0 l.f1 l.f2 l.f3.f0 l.f3.f1) ((⟨#[]⟩ : ByteArray), 0, 0) := fun b hb => by
  subst hb; exact Ev.step (f := fun _ => some ((⟨#[]⟩ : ByteArray), (0 : Int), (0 : Int))) (fun k => by rw [tag_LeafNode.j0, if_pos rfl]) (Ev.now _)
 by_cases h1 : w ≥ 1
 ·
  by_cases h2 : w ≤ 32
  ·
   simp only [if_pos h1, decide_eq_true h2, Option.bind_some, if_true]
   cases hm : mayLeafI l with
   | false => rw [if_neg (by simp)]; exact hj _ rfl
   | true =>
    rw [if_pos ⟨⟨h1, h2⟩, rfl⟩]
    refine Ev.step (f := fun _ => some _) (fun k => ?_) (Ev.now _)
    rw [tag_LeafNode.j0, if_neg (by decide), tagLeafText_eq l hid hsa]
    simp only [Option.bind_some, tagDigest_eq w (leafTextI l) h1 h2 (by have := leafTextI_size l hid hsa; omega)]
  ·
   simp only [if_pos h1, decide_eq_false h2, Option.bind_some]
   rw [if_neg (fun h => h2 h.1.2)]; exact hj _ rfl
 ·
  simp only [if_neg h1, Option.bind_some]
  rw [if_neg (fun h => h1 h.1.1)]; exact hj _ rfl
theorem refLeafNode_ev (w : Int) (l : SLeaf) (hid : l.f1.size ≤ 1000000) (hsa : l.f2.size ≤ 1000000) (ub : OkU l.f3) : Ev (fun k => paymasterref07_LeafNode.f k w l.f0 l.f1 l.f2 l.f3.f0 l.f3.f1) (nodeT (leafNodeI w l)) := by
 unfold paymasterref07_LeafNode.f paymasterref07_MayWidth.f leafNodeI
 have hj : ∀ b : Bool, b = true → Ev (fun k => paymasterref07_LeafNode.j0 k w b l.f0 l.f1 l.f2 l.f3.f0 l.f3.f1) ((⟨#[]⟩ : ByteArray), 0, 0) := fun b hb => by
  subst hb; exact Ev.step (f := fun _ => some ((⟨#[]⟩ : ByteArray), (0 : Int), (0 : Int))) (fun k => by rw [paymasterref07_LeafNode.j0, if_pos rfl]) (Ev.now _)
 by_cases h1 : w ≥ 1
 ·
  by_cases h2 : w ≤ 32
  ·
   simp only [if_pos h1, decide_eq_true h2, Option.bind_some, if_true]
   refine Ev.bind (refMayLeaf_ev l hid) ?_
   cases hm : mayLeafI l with
   | false => rw [if_neg (by simp)]; exact hj _ rfl
   | true =>
    rw [if_pos ⟨⟨h1, h2⟩, rfl⟩]
    refine Ev.step (f := fun k => (paymasterref07_LeafText.f k l.f0 l.f1 l.f2 l.f3.f0 l.f3.f1).bind fun t278 => (paymasterref07_Digest.f w t278).bind fun t279 => some (t279, l.f3.f0, l.f3.f1)) (fun k => by rw [paymasterref07_LeafNode.j0, if_neg (by decide)]) ?_
    refine Ev.bind (refLeafText_ev l hid hsa ub) ?_
    exact Ev.some_ (fun k => by simp only [Option.bind_some, refDigest_eq w (leafTextI l) h1 h2 (by have := leafTextI_size l hid hsa; omega)])
  ·
   simp only [if_pos h1, decide_eq_false h2, Option.bind_some]
   rw [if_neg (fun h => h2 h.1.2)]; exact hj _ rfl
 ·
  simp only [if_neg h1, Option.bind_some]
  rw [if_neg (fun h => h1 h.1.1)]; exact hj _ rfl
theorem leafNodeI_ok (w : Int) (l : SLeaf) (ub : OkU l.f3) : OkU (leafNodeI w l).f1 := by
 unfold leafNodeI; split
 ·
  exact ub
 ·
  exact ⟨⟨by decide, by decide⟩, ⟨by decide, by decide⟩⟩
end Go.Proofs.YtfcodmdckcihmaaDoor.P
namespace Go.Proofs.YtfcodmdckcihmaaDoor.P
open Go.RowKit Go.Proofs.YtfcodmdckcihmaaDoorW.PrintWords Go.Proofs.YtfcodmdckcihmaaDoorW.PrintLast Go.Proofs.YtfcodmdckcihmaaDoorW.PrintMore
set_option linter.unusedVariables false
set_option linter.unusedSimpArgs false
set_option linter.unnecessarySimpa false
structure STree where
 wd : Int
 leaves : List SLeaf
 rows : List (List SNode)
structure TreeAt (W : World) (a : Nat) (T : STree) (LA : Option Addr) (cl : Nat) (va : Addr) (cv : Nat) : Prop where
 box : W.heap[a]? = some (.cells #[.int .i64 T.wd, .slice LA T.leaves.length cl, .slice (some va) T.rows.length cv] 105 (0, 0))
 lcap : T.leaves.length ≤ cl
 lread : Kd.C kLeaf W LA T.leaves.length T.leaves
 lmin : 1 ≤ T.leaves.length
 lmax : T.leaves.length ≤ 1024
 vcap : T.rows.length ≤ cv
 vmin : 1 ≤ T.rows.length
 vmax : T.rows.length ≤ 11
 rows : ∀ i, (h : i < T.rows.length) → ∃ ra rc, W.cell? (va.add (i * 2)) = some (.slice (some ra) T.rows[i].length rc) ∧ W.cell? ⟨(va.add (i * 2)).block, (va.add (i * 2)).off + 1, none⟩ = some (.int .i64 (i : Int)) ∧ T.rows[i].length ≤ rc ∧ Kd.C kNode W (some ra) T.rows[i].length T.rows[i] ∧ 1 ≤ T.rows[i].length ∧ T.rows[i].length ≤ 1024
abbrev nodeZ : SNode := ⟨⟨#[]⟩, ⟨0, 0⟩⟩
def TreeR (a : Nat) (T : STree) (W : World) : Prop := ∃ LA cl va cv, TreeAt W a T LA cl va cv
theorem TreeR.below {W W' : World} {a : Nat} {T : STree} (h : TreeR a T W) (hb : Below W.heap.size W W') : TreeR a T W' := by
 obtain ⟨LA, cl, va, cv, h⟩ := h
 refine ⟨LA, cl, va, cv, blk_below h.box hb, h.lcap, Kd.C_below h.lread hb, h.lmin, h.lmax, h.vcap, h.vmin, h.vmax, fun i hi => ?_⟩
 obtain ⟨ra, rc, h1, h1', h2, h3, h4⟩ := h.rows i hi
 exact ⟨ra, rc, pw_cell_below hb h1, pw_cell_below hb h1', h2, Kd.C_below h3 hb, h4⟩
abbrev ptrT (a : Nat) : Value := .pointer (some ⟨a, 0, none⟩)
theorem tNone.calls (a : Nat) (T : STree) (w : World) (h : TreeR a T w) : Calls Tryd.prog 63 #[ptrT a] w fun e w' => e = .returned (.bool false) ∧ w = w' := by
 obtain ⟨LA, cl, va, cv, h⟩ := h
 have hu := Tryd.underlying105
 have h2 : w.cell? ⟨a, 2, none⟩ = some (.slice (some va) T.rows.length cv) := blk_cell h.box 2
 have h3 := h.vmin
 have b0 : ((T.rows.length : Int) == 0) = false := by simp; intro h; rw [h] at h3; simp at h3
 clear h h3
 go_enter Tryd.func63, Tryd.ntmps63
 go_wp2_with fail
 go_ret
 exact ⟨rfl, rfl⟩
theorem tWidth.calls (a : Nat) (T : STree) (w : World) (h : TreeR a T w) : Calls Tryd.prog 18 #[ptrT a] w fun e w' => e = .returned (.int .i64 T.wd) ∧ w = w' := by
 have q := aM' (tNone.calls a T w h)
 obtain ⟨LA, cl, va, cv, h⟩ := h
 have hu := Tryd.underlying105
 have h2 : w.cell? ⟨a, 0, none⟩ = some (.int .i64 T.wd) := blk_cell h.box 0
 clear h
 go_enter Tryd.func18, Tryd.ntmps18
 go_wp2_with fail
 refine q.out.mono ?_
 rintro e w1 ⟨rfl, rfl⟩
 go_wp2
 go_ret
 exact ⟨rfl, rfl⟩
theorem tHeight.calls (a : Nat) (T : STree) (w : World) (h : TreeR a T w) : Calls Tryd.prog 19 #[ptrT a] w fun e w' => e = .returned (.int .i64 ((T.rows.length : Int) - 1)) ∧ w = w' := by
 have q := aM' (tNone.calls a T w h)
 obtain ⟨LA, cl, va, cv, h⟩ := h
 have hu := Tryd.underlying105
 have h2 : w.cell? ⟨a, 2, none⟩ = some (.slice (some va) T.rows.length cv) := blk_cell h.box 2
 have h3 := h.vmin
 have h4 := h.vmax
 clear h
 go_enter Tryd.func19, Tryd.ntmps19
 go_wp2_with fail
 refine q.out.mono ?_
 rintro e w1 ⟨rfl, rfl⟩
 go_wp2
 go_ret
 exact ⟨rfl, rfl⟩
theorem rowAt.calls (ra : Addr) (l : List SNode) (rc : Nat) (p : Int) (w : World) (hr : Kd.C kNode w (some ra) l.length l) (hl : l.length ≤ 1024) (hc : l.length ≤ rc) (hp : 0 ≤ p) :
  Calls Tryd.prog 65 #[.agg #[.slice (some ra) l.length rc], .int .u64 p] w fun e w' => e = .returned (.tuple #[nodeV (l.getD p.toNat nodeZ), .bool (decide (p.toNat < l.length))]) ∧ Below w.heap.size w w' := by
 have hu := Tryd.underlying46
 have hu2 := Tryd.underlying107
 have hw : IntKind.u64.wrap ((l.length : Nat) : Int) = (l.length : Int) := wrapu64_id (by omega) (by omega)
 by_cases h : p.toNat < l.length
 ·
  obtain ⟨n, rfl⟩ := Int.eq_ofNat_of_zero_le hp
  rw [Int.toNat_natCast] at h ⊢
  obtain ⟨a1, e1, p0, p1, p2⟩ := at_TNode hr (n : Int) (by omega) (by omega)
  cases e1
  rw [rdNode_nat l n h, Int.toNat_natCast] at p0 p1 p2
  have e2 : l.getD n nodeZ = l[n] := by simp [List.getD_eq_getElem?_getD, h]
  rw [e2]
  generalize l[n] = x at p0 p1 p2 ⊢
  have f1 := pw_cell_below (below_alloc (below_alloc (Below.refl w.heap.size w) (.cells #[.slice (some ra) l.length rc] 107)) (.cells #[.string ⟨#[]⟩, .int .u64 0, .int .u64 0] 46)) p0
  have f2 := pw_cell_below (below_alloc (below_alloc (Below.refl w.heap.size w) (.cells #[.slice (some ra) l.length rc] 107)) (.cells #[.string ⟨#[]⟩, .int .u64 0, .int .u64 0] 46)) p1
  have f3 := pw_cell_below (below_alloc (below_alloc (Below.refl w.heap.size w) (.cells #[.slice (some ra) l.length rc] 107)) (.cells #[.string ⟨#[]⟩, .int .u64 0, .int .u64 0] 46)) p2
  have b0 : decide ((l.length : Int) ≤ (n : Int)) = false := decide_eq_false (by omega)
  have b1 : decide (l.length ≤ n) = false := decide_eq_false (by omega)
  have b2 : decide (n < l.length) = true := decide_eq_true h
  rw [b2]
  clear hr
  go_enter Tryd.func65, Tryd.ntmps65
  go_wp2
  refine bodyPost_ret (v := .tuple #[nodeV x, .bool true]) ?_ rfl ⟨rfl, ?_⟩
  ·
   simp [results, Tryd.results65, go_sem, hu]
  ·
   repeat (with_reducible first | exact Below.refl _ _ | apply below_alloc | refine below_set ?_ (by (try dsimp only); omega))
 ·
  obtain ⟨n, rfl⟩ := Int.eq_ofNat_of_zero_le hp
  rw [Int.toNat_natCast] at h ⊢
  have b0 : decide ((l.length : Int) ≤ (n : Int)) = true := decide_eq_true (by omega)
  have b1 : decide (l.length ≤ n) = true := decide_eq_true (by omega)
  have b2 : decide (n < l.length) = false := decide_eq_false h
  have e2 : l.getD n nodeZ = nodeZ := by simp [List.getD_eq_getElem?_getD, show l.length ≤ n by omega]
  rw [b2, e2]
  go_enter Tryd.func65, Tryd.ntmps65
  go_wp2
  refine bodyPost_ret (v := .tuple #[nodeV nodeZ, .bool false]) ?_ rfl ⟨rfl, ?_⟩
  ·
   simp [results, Tryd.results65, go_sem, hu]
  ·
   repeat (with_reducible first | exact Below.refl _ _ | apply below_alloc | refine below_set ?_ (by (try dsimp only); omega))
def nodeAtI (T : STree) (n p : Int) : SNode × Bool :=
 if 0 ≤ n ∧ n < (T.rows.length : Int) then ((T.rows.getD n.toNat []).getD p.toNat nodeZ, decide (p.toNat < (T.rows.getD n.toNat []).length)) else (nodeZ, false)
set_option maxRecDepth 100000 in
set_option maxHeartbeats 1000000 in
theorem tNode.calls (a : Nat) (T : STree) (n p : Int) (w : World) (h : TreeR a T w) (hp : 0 ≤ p) :
  Calls Tryd.prog 24 #[ptrT a, .int .i64 n, .int .u64 p] w fun e w' => e = .returned (.tuple #[nodeV (nodeAtI T n p).1, .bool (nodeAtI T n p).2]) ∧ Below w.heap.size w w' := by
 have hu := Tryd.underlying105
 have hu2 := Tryd.underlying109
 have hu3 := Tryd.underlying107
 have hu4 := Tryd.underlying46
 obtain ⟨W1, hW1⟩ : ∃ V, V = w.alloc (.cells #[.string ⟨#[]⟩, .int .u64 0, .int .u64 0] 46) := ⟨_, rfl⟩
 have hb1 : Below w.heap.size w W1 := by rw [hW1]; exact below_alloc (Below.refl _ _) _
 have hz1 : W1.heap[w.heap.size]? = some (.cells #[.string ⟨#[]⟩, .int .u64 0, .int .u64 0] 46 (0, 0)) := by rw [hW1]; exact blk_new _ _
 have h1 := h.below hb1
 have q := aM' (tNone.calls a T W1 h1)
 obtain ⟨LA, cl, va, cv, hT⟩ := h1
 have h2 : W1.cell? ⟨a, 2, none⟩ = some (.slice (some va) T.rows.length cv) := blk_cell hT.box 2
 have z0 : W1.cell? ⟨w.heap.size, 0, none⟩ = some (.string ⟨#[]⟩) := blk_cell hz1 0
 have z1 : W1.cell? ⟨w.heap.size, 1, none⟩ = some (.int .u64 0) := blk_cell hz1 1
 have z2 : W1.cell? ⟨w.heap.size, 2, none⟩ = some (.int .u64 0) := blk_cell hz1 2
 have zf : ∀ i, W1.frozen? ⟨w.heap.size, i, none⟩ = false := fun i => blk_frozen hz1 i
 have hvx := hT.vmax
 have HB1 := aM' hb1
 have HZ1 := aM' hz1
 by_cases hn : 0 ≤ n ∧ n < (T.rows.length : Int)
 ·
  obtain ⟨k, rfl⟩ := Int.eq_ofNat_of_zero_le hn.1
  have hk : k < T.rows.length := by omega
  obtain ⟨ra, rc, c0, -, hrc, hrd, -, hl2⟩ := hT.rows k hk
  have hI : nodeAtI T (k : Int) p = (T.rows[k].getD p.toNat nodeZ, decide (p.toNat < T.rows[k].length)) := by
   unfold nodeAtI; rw [if_pos hn, Int.toNat_natCast, show T.rows.getD k [] = T.rows[k] by simp [List.getD_eq_getElem?_getD, hk]]
  rw [hI]
  generalize T.rows[k] = l at c0 hrc hrd hl2 ⊢
  have HQ := aM' (rowAt.calls ra l rc p W1 hrd hl2 hrc hp)
  have b0 : decide ((k : Int) < 0) = false := decide_eq_false (by omega)
  have b1 : decide ((T.rows.length : Int) ≤ (k : Int)) = false := decide_eq_false (by omega)
  have b2 : decide (T.rows.length ≤ k) = false := decide_eq_false (by omega)
  generalize hx : l.getD p.toNat nodeZ = x at HQ ⊢
  generalize hy : decide (p.toNat < l.length) = y at HQ ⊢
  clear hn hx hy hI hrd hl2 hT h hb1 hz1
  go_enter Tryd.func24, Tryd.ntmps24
  go_wp2_with fail
  rw [← hW1]
  clear hW1
  refine q.out.mono ?_
  rintro e w1 ⟨rfl, rfl⟩
  go_wp2_with fail
  refine HQ.out.mono ?_
  rintro e w2 ⟨rfl, hb⟩
  have hz2 := blk_below HZ1.out hb
  have y0 : w2.cell? ⟨w.heap.size, 0, none⟩ = some (.string ⟨#[]⟩) := blk_cell hz2 0
  have y1 : w2.cell? ⟨w.heap.size, 1, none⟩ = some (.int .u64 0) := blk_cell hz2 1
  have y2 : w2.cell? ⟨w.heap.size, 2, none⟩ = some (.int .u64 0) := blk_cell hz2 2
  have yf : ∀ i, w2.frozen? ⟨w.heap.size, i, none⟩ = false := fun i => blk_frozen hz2 i
  have HB2 := aM' (HB1.out.trans (hb.mono HB1.out.size))
  clear hb hz2
  go_wp2
  refine bodyPost_ret (v := .tuple #[nodeV x, .bool y]) ?_ rfl ⟨rfl, ?_⟩
  ·
   simp [results, Tryd.results24, go_sem, hu4, y0, y1, y2]
  ·
   exact below_set (below_set (below_set HB2.out (Nat.le_refl _)) (Nat.le_refl _)) (Nat.le_refl _)
 ·
  have hI : nodeAtI T n p = (nodeZ, false) := by unfold nodeAtI; rw [if_neg hn]
  rw [hI]
  by_cases h0 : n < 0
  ·
   have b0 : decide (n < 0) = true := decide_eq_true h0
   clear hn hI hT h hb1 hz1
   go_enter Tryd.func24, Tryd.ntmps24
   go_wp2_with fail
   rw [← hW1]
   clear hW1
   refine q.out.mono ?_
   rintro e w1 ⟨rfl, rfl⟩
   go_wp2
   refine bodyPost_ret (v := .tuple #[nodeV nodeZ, .bool false]) ?_ rfl ⟨rfl, ?_⟩
   ·
    simp [results, Tryd.results24, go_sem, hu4, z0, z1, z2]
   ·
    exact below_set (below_set (below_set HB1.out (Nat.le_refl _)) (Nat.le_refl _)) (Nat.le_refl _)
  ·
   obtain ⟨k, rfl⟩ := Int.eq_ofNat_of_zero_le (show 0 ≤ n by omega)
   have b0 : decide ((k : Int) < 0) = false := decide_eq_false h0
   have b1 : decide ((T.rows.length : Int) ≤ (k : Int)) = true := decide_eq_true (by omega)
   have b2 : decide (T.rows.length ≤ k) = true := decide_eq_true (by omega)
   clear hn hI hT h hb1 hz1
   go_enter Tryd.func24, Tryd.ntmps24
   go_wp2_with fail
   rw [← hW1]
   clear hW1
   refine q.out.mono ?_
   rintro e w1 ⟨rfl, rfl⟩
   go_wp2
   refine bodyPost_ret (v := .tuple #[nodeV nodeZ, .bool false]) ?_ rfl ⟨rfl, ?_⟩
   ·
    simp [results, Tryd.results24, go_sem, hu4, z0, z1, z2]
   ·
    exact below_set (below_set (below_set HB1.out (Nat.le_refl _)) (Nat.le_refl _)) (Nat.le_refl _)
theorem leafInfo : (Tryd.prog.info? 36).map (fun i => (i.zero, i.size, i.bytes)) = some (some (.agg #[.bool false, .string ⟨#[]⟩, .string ⟨#[]⟩, .int .u64 0, .int .u64 0]), 5, 56) := by kernel_rfl
def cellsL : List SLeaf → List Value
 | [] => []
 | x :: l => .bool x.f0 :: .string x.f1 :: .string x.f2 :: .int .u64 x.f3.f0 :: .int .u64 x.f3.f1 :: cellsL l
theorem cellsL_len : ∀ l, (cellsL l).length = l.length * 5
 | [] => rfl
 | x :: l => by simp [cellsL, cellsL_len l]; omega
theorem cellsL_get : ∀ (l : List SLeaf) (j i : Nat) (p : SLeaf), l[j]? = some p → i < 5 → (cellsL l)[j * 5 + i]? = [Value.bool p.f0, .string p.f1, .string p.f2, .int .u64 p.f3.f0, .int .u64 p.f3.f1][i]?
 | [], j, i, p, h, _ => by simp at h
 | x :: l, 0, i, p, h, hi => by
  obtain rfl := Option.some.inj h
  rw [cellsL, Nat.zero_mul, Nat.zero_add]
  match i, hi with
  | 0, _ => rfl
  | 1, _ => rfl
  | 2, _ => rfl
  | 3, _ => rfl
  | 4, _ => rfl
 | x :: l, j + 1, i, p, h, hi => by
  have h' : l[j]? = some p := by simpa using h
  rw [cellsL, show (j + 1) * 5 + i = (j * 5 + i) + 5 by omega]
  simp only [List.getElem?_cons_succ]
  exact cellsL_get l j i p h' hi
theorem oneL : ∀ l, ∀ u ∈ cellsL l, u.oneCell' = true
 | [], u, h => by cases h
 | x :: l, u, h => by
  simp only [cellsL, List.mem_cons] at h
  rcases h with rfl | rfl | rfl | rfl | rfl | h
  ·
   rfl
  ·
   rfl
  ·
   rfl
  ·
   rfl
  ·
   rfl
  ·
   exact oneL l u h
theorem ownLeaves_C {w : World} {base g n cap : Nat} {xs : List SLeaf} (h : w.ownsRow base 36 5 (.slice (some ⟨g, 0, none⟩) n cap) n (cellsL xs)) : xs.length = n ∧ n ≤ cap ∧ Kd.C kLeaf w (some ⟨g, 0, none⟩) n xs := by
 obtain ⟨hlen, h⟩ := h
 rw [cellsL_len] at hlen
 have hl : xs.length = n := by omega
 rcases h with ⟨h, _⟩ | ⟨g', cap', cur, hv, hb, hg, hcap, hmax, hsz, htk⟩
 ·
  cases h
 ·
  simp only [Value.slice.injEq, Option.some.injEq, Addr.mk.injEq] at hv
  obtain ⟨⟨rfl, -⟩, -, rfl⟩ := hv
  refine ⟨hl, hcap, hl, by unfold maxLen at hmax; omega, fun h0 => ⟨_, rfl, fun j p hj => ?_⟩⟩
  refine ⟨_, rfl, kLeaf_mk w p, fun i u hu => ?_⟩
  have hi : i < 5 := by
   rcases Nat.lt_or_ge i 5 with h | h
   ·
    exact h
   ·
    simp [h] at hu
  have hjn : j < xs.length := (List.getElem?_eq_some_iff.1 hj).1
  have e : kLeaf.sz = 5 := rfl
  have ea : ∀ n, (⟨g, 0, none⟩ : Addr).add n = ⟨g, n, none⟩ := fun n => by unfold Addr.add; split <;> simp_all
  rw [e, ea, blk_cell hg]
  have h1 := cellsL_get xs j i p hj hi
  rw [← htk, List.getElem?_take, if_pos (by omega)] at h1
  rw [hu] at h1
  simpa using h1
theorem leaves_news {W : World} {ad : Addr} {l : List SLeaf} (h : Kd.C kLeaf W (some ad) l.length l) : ∀ j u, (cellsL l)[j]? = some u → W.cell? (ad.add j) = some u := by
 intro j u hu
 have hj : j < l.length * 5 := by
  have := (List.getElem?_eq_some_iff.1 hu).1
  rwa [cellsL_len] at this
 obtain ⟨k, i, rfl, hi⟩ : ∃ k i, j = k * 5 + i ∧ i < 5 := ⟨j / 5, j % 5, by omega, Nat.mod_lt _ (by decide)⟩
 have hk : k < l.length := by omega
 rw [cellsL_get l k i l[k] (List.getElem?_eq_getElem hk) hi] at hu
 obtain ⟨a1, e1, p0, p1, p2, p3, p4⟩ := at_TLeaf h (k : Int) (by omega) (by omega)
 cases e1
 have e3 : rd_TLeaf l (k : Int) = l[k] := by rw [rd_TLeaf, Int.toNat_natCast]; simp [List.getD_eq_getElem?_getD, hk]
 rw [e3, Int.toNat_natCast] at p0 p1 p2 p3 p4
 match i, hi with
 | 0, _ => simp at hu; rw [← hu]; exact p0
 | 1, _ => simp at hu; rw [← hu, add_field _ _ 1 (by omega)]; exact p1
 | 2, _ => simp at hu; rw [← hu, add_field _ _ 2 (by omega)]; exact p2
 | 3, _ => simp at hu; rw [← hu, add_field _ _ 3 (by omega)]; exact p3
 | 4, _ => simp at hu; rw [← hu, add_field _ _ 4 (by omega)]; exact p4
set_option maxRecDepth 100000 in
theorem cloneL.calls (ad : Addr) (c : Nat) (l : List SLeaf) (w : World) (hr : Kd.C kLeaf w (some ad) l.length l) (hl : 1 ≤ l.length) (hm : l.length ≤ 1024) :
  Calls Tryd.prog 57 #[.slice (some ad) l.length c] w fun e w' => ∃ g cap, e = .returned (.slice (some ⟨g, 0, none⟩) l.length cap) ∧ w'.ownsRow w.heap.size 36 5 (.slice (some ⟨g, 0, none⟩) l.length cap) l.length (cellsL l) ∧ Below w.heap.size w w' ∧ g < w'.heap.size := by
 obtain ⟨i0, hi, hz0, hz1, hz2⟩ := info_parts leafInfo
 have HR := aM' hr
 have HM := aM' hm
 have HL := aM' hl
 clear hr hm hl
 have hu := Tryd.underlying22
 have qT : ∀ wx : World, (binOp .eql 22 (.slice (some ad) l.length c) (.slice none 0 0)).run Tryd.prog wx = .ok (.bool false) wx := fun wx => Lib.run_eql_slice_nil wx _ _ _ _ _ _ _ hu
 go_enter Tryd.func57, Tryd.ntmps57
 go_wp2_with (at_builtin; refine wpList_append_own _ rfl _ _ 22 rfl w.heap.size 36 i0 (.agg #[.bool false, .string ⟨#[]⟩, .string ⟨#[]⟩, .int .u64 0, .int .u64 0]) 5 56 Tryd.underlying22 hi hz0 hz1 hz2 rfl (by decide) _ 0 [] rfl (World.ownsRow_made w #[] 0 (Nat.le_refl _) (by decide) rfl) ad l.length c (cellsL l) rfl (cellsL_len l) ?c2 ?c3 ?c4 ?c5 ?c6 ?_)
 case c2 => exact leaves_news (Kd.C_below HR.out (below_alloc (Below.refl _ _) _))
 case c3 => exact oneL l
 case c4 => have := HM.out; unfold maxLen; omega
 case c5 => have := HM.out; omega
 case c6 => simp
 intro v' w' hown hgr hnil
 obtain ⟨g, cap, rfl, -, hg⟩ := hown.form HL.out
 have HO := aM' hown
 have HG := aM' hgr
 have HL2 := aM' hg
 clear hown hgr hnil hg
 go_wp2
 go_ret
 refine ⟨g, cap, rfl, HO.out, ?_, HL2.out⟩
 have hb := HG.out
 refine ⟨hb.os, hb.tape, hb.output, Nat.le_trans (by simp) hb.size, fun i hi => ?_⟩
 have h1 := hb.block i (by simp; omega) (by intro e; have := Option.some.inj e; dsimp only at this; omega)
 rw [h1]
 exact (below_alloc (Below.refl w.heap.size w) (.cells #[] 36)).block i hi
set_option maxRecDepth 100000 in
theorem tLeaves.calls (a : Nat) (T : STree) (w : World) (h : TreeR a T w) : Calls Tryd.prog 17 #[ptrT a] w fun e w' => ∃ g cap, e = .returned (.slice (some ⟨g, 0, none⟩) T.leaves.length cap) ∧ w'.ownsRow w.heap.size 36 5 (.slice (some ⟨g, 0, none⟩) T.leaves.length cap) T.leaves.length (cellsL T.leaves) ∧ Below w.heap.size w w' ∧ g < w'.heap.size := by
 have q := aM' (tNone.calls a T w h)
 obtain ⟨LA, cl, va, cv, h⟩ := h
 have hu := Tryd.underlying105
 have h2 : w.cell? ⟨a, 1, none⟩ = some (.slice LA T.leaves.length cl) := blk_cell h.box 1
 obtain ⟨ad, rfl⟩ : ∃ ad, LA = some ad := by
  obtain ⟨_, _, h3⟩ := h.lread
  obtain ⟨a, ha, _⟩ := h3 (by have := h.lmin; omega)
  exact ⟨a, ha⟩
 have HQ := aM' (cloneL.calls ad cl T.leaves w h.lread h.lmin h.lmax)
 clear h
 go_enter Tryd.func17, Tryd.ntmps17
 go_wp2_with fail
 refine q.out.mono ?_
 rintro e w1 ⟨rfl, rfl⟩
 go_wp2_with fail
 refine HQ.out.mono ?_
 rintro e w1 ⟨g, cap, rfl, h1, h2, h3⟩
 have H1 := aM' h1
 have H2 := aM' h2
 have H3 := aM' h3
 clear h1 h2 h3
 go_wp2
 go_ret
 exact ⟨g, cap, rfl, H1.out, H2.out, H3.out⟩
attribute [local go_sem] sel_true
def topI (T : STree) : SNode := (T.rows.getD (T.rows.length - 1) []).headD nodeZ
abbrev rootV (T : STree) : Value := .agg #[.string (topI T).f0, .int .u64 (topI T).f1.f0, .int .u64 (topI T).f1.f1, .int .i64 ((T.rows.length : Int) - 1)]
structure TrS (w0 W : World) (x : SNode) (l : Nat → Bool) (γ : Nat) : Prop where
 hB : Below w0.heap.size w0 W
 hg : l 12 = true → w0.heap.size ≤ γ ∧ W.heap[γ]? = some (.cells (if l 13 = true then #[.string x.f0, .int .u64 x.f1.f0, .int .u64 x.f1.f1] else #[.string ⟨#[]⟩, .int .u64 0, .int .u64 0]) 46 (0, 0))
 ho : l 13 = true → l 12 = true
theorem TrS.alloc {w0 W : World} {x : SNode} {l : Nat → Bool} {γ : Nat} (h : TrS w0 W x l γ) (hl : l 12 = false) : TrS w0 (W.alloc (.cells #[.string ⟨#[]⟩, .int .u64 0, .int .u64 0] 46 (0, 0))) x (upd l 12) W.heap.size := by
 have h13 : l 13 = false := by
  cases hx : l 13 with
  | false => rfl
  | true => rw [h.ho hx] at hl; cases hl
 have e2 : upd l 12 13 = l 13 := rfl
 refine ⟨below_alloc h.hB _, ?_, ?_⟩
 ·
  rw [e2, h13]; exact fun _ => ⟨h.hB.size, blk_new W _⟩
 ·
  exact fun _ => rfl
theorem put3z {W : World} {g : Nat} {z : SNode} (h : W.heap[g]? = some (.cells #[.string z.f0, .int .u64 z.f1.f0, .int .u64 z.f1.f1] 46 (0, 0))) (x : SNode) : (((W.setCell ⟨g, 0, none⟩ (.string x.f0)).setCell ⟨g, 1, none⟩ (.int .u64 x.f1.f0)).setCell ⟨g, 2, none⟩ (.int .u64 x.f1.f1)).heap[g]? = some (.cells #[.string x.f0, .int .u64 x.f1.f0, .int .u64 x.f1.f1] 46 (0, 0)) :=
 blk_put (cs' := #[.string x.f0, .int .u64 x.f1.f0, .int .u64 x.f1.f1]) (blk_put (cs' := #[.string x.f0, .int .u64 x.f1.f0, .int .u64 z.f1.f1]) (blk_put (cs' := #[.string x.f0, .int .u64 z.f1.f0, .int .u64 z.f1.f1]) h 0 (.string x.f0) rfl) 1 (.int .u64 x.f1.f0) rfl) 2 (.int .u64 x.f1.f1) rfl
theorem TrS.store {w0 W : World} {x : SNode} {l : Nat → Bool} {γ : Nat} (h : TrS w0 W x l γ) (ha : l 12 = true) (hl : l 13 = false) : TrS w0 (((W.setCell ⟨γ, 0, none⟩ (.string x.f0)).setCell ⟨γ, 1, none⟩ (.int .u64 x.f1.f0)).setCell ⟨γ, 2, none⟩ (.int .u64 x.f1.f1)) x (upd l 13) γ := by
 obtain ⟨h1, h2⟩ := h.hg ha
 rw [hl, if_neg (by decide)] at h2
 refine ⟨below_set (below_set (below_set h.hB h1) h1) h1, ?_, fun _ => ha⟩
 exact fun _ => ⟨h1, put3z (z := ⟨⟨#[]⟩, ⟨0, 0⟩⟩) h2 x⟩
theorem TrS.other {w0 W W' : World} {x : SNode} {l : Nat → Bool} {γ : Nat} (h : TrS w0 W x l γ) (i : Nat) (hi : i ≠ 12) (hi2 : i ≠ 13) (hb : Below W.heap.size W W') : TrS w0 W' x (upd l i) γ := by
 have e1 : upd l i 12 = l 12 := by unfold upd; rw [if_neg (fun e => hi e.symm)]
 have e2 : upd l i 13 = l 13 := by unfold upd; rw [if_neg (fun e => hi2 e.symm)]
 refine ⟨h.hB.trans (hb.mono h.hB.size), ?_, ?_⟩
 ·
  rw [e1, e2]; exact fun hl => ⟨(h.hg hl).1, blk_below (h.hg hl).2 hb⟩
 ·
  rw [e1, e2]; exact h.ho
structure TrS4 (w W1 W2 W : World) (x : SNode) (m : Int) (l : Nat → Bool) : Prop where
 hB : l 7 = false → Below W1.heap.size W1 W
 hC : l 7 = false → Below W2.heap.size W2 W
 hz : W.heap[w.heap.size]? = some (.cells (if l 7 = true then #[.string x.f0, .int .u64 x.f1.f0, .int .u64 x.f1.f1, .int .i64 m] else #[.string ⟨#[]⟩, .int .u64 0, .int .u64 0, .int .i64 0]) 41 (0, 0))
 hD : Below w.heap.size w W
 ho : l 7 = true → ∀ i, i < 7 → l i = true
theorem TrS4.no {w W1 W2 W : World} {x : SNode} {m : Int} {l : Nat → Bool} (h : TrS4 w W1 W2 W x m l) {i : Nat} (hi : i < 7) (hl : l i = false) : l 7 = false := by
 cases h7 : l 7 with
 | false => rfl
 | true => rw [h.ho h7 i hi] at hl; cases hl
theorem TrS4.other {w W1 W2 W : World} {x : SNode} {m : Int} {l : Nat → Bool} (h : TrS4 w W1 W2 W x m l) (i : Nat) (hi : i < 7) (hl : l i = false) : TrS4 w W1 W2 W x m (upd l i) := by
 have h7 := h.no hi hl
 have e : upd l i 7 = l 7 := by unfold upd; rw [if_neg (by omega)]
 refine ⟨fun _ => h.hB h7, fun _ => h.hC h7, by rw [e]; exact h.hz, h.hD, fun h' => by rw [e, h7] at h'; cases h'⟩
theorem TrS4.store {w W1 W2 W : World} {x : SNode} {m : Int} {l : Nat → Bool} (h : TrS4 w W1 W2 W x m l) (h7 : l 7 = false) (ha : ∀ i, i < 7 → l i = true) :
  TrS4 w W1 W2 ((((W.setCell ⟨w.heap.size, 0, none⟩ (.string x.f0)).setCell ⟨w.heap.size, 1, none⟩ (.int .u64 x.f1.f0)).setCell ⟨w.heap.size, 2, none⟩ (.int .u64 x.f1.f1)).setCell ⟨w.heap.size, 3, none⟩ (.int .i64 m)) x m (upd l 7) := by
 have hz := h.hz
 rw [h7, if_neg (by decide)] at hz
 have e : upd l 7 7 = true := rfl
 refine ⟨(fun h' => by rw [e] at h'; cases h'), (fun h' => by rw [e] at h'; cases h'), ?_, below_set (below_set (below_set (below_set h.hD (Nat.le_refl _)) (Nat.le_refl _)) (Nat.le_refl _)) (Nat.le_refl _), fun _ i hi => by unfold upd; rw [if_neg (by omega)]; exact ha i hi⟩
 rw [e, if_pos rfl]
 exact blk_put (cs' := #[.string x.f0, .int .u64 x.f1.f0, .int .u64 x.f1.f1, .int .i64 m]) (blk_put (cs' := #[.string x.f0, .int .u64 x.f1.f0, .int .u64 x.f1.f1, .int .i64 0]) (blk_put (cs' := #[.string x.f0, .int .u64 x.f1.f0, .int .u64 0, .int .i64 0]) (blk_put (cs' := #[.string x.f0, .int .u64 0, .int .u64 0, .int .i64 0]) hz 0 (.string x.f0) rfl) 1 (.int .u64 x.f1.f0) rfl) 2 (.int .u64 x.f1.f1) rfl) 3 (.int .i64 m) rfl
set_option maxRecDepth 100000 in
set_option maxHeartbeats 1000000 in
theorem tRoot.calls (gt : Nat) (T : STree) (w : World) (h : TreeR gt T w) : Calls Tryd.prog 21 #[ptrT gt] w fun e w' => e = .returned (rootV T) ∧ Below w.heap.size w w' := by
 have hu := Tryd.underlying105
 have hu2 := Tryd.underlying109
 have hu3 := Tryd.underlying107
 have hu4 := Tryd.underlying46
 have hu5 := Tryd.underlying41
 have hT := h
 obtain ⟨W1, hW1⟩ : ∃ V, V = w.alloc (.cells #[.string ⟨#[]⟩, .int .u64 0, .int .u64 0, .int .i64 0] 41) := ⟨_, rfl⟩
 have hb1 : Below w.heap.size w W1 := by rw [hW1]; exact below_alloc (Below.refl _ _) _
 have hz1 : W1.heap[w.heap.size]? = some (.cells #[.string ⟨#[]⟩, .int .u64 0, .int .u64 0, .int .i64 0] 41 (0, 0)) := by rw [hW1]; exact blk_new _ _
 have h1 := h.below hb1
 have HT1 := aM' h1
 have HB1 := aM' hb1
 have HZ1 := aM' hz1
 obtain ⟨LA, cl, va, cv, hA⟩ := h1
 have hv1 := hA.vmin
 have hv2 := hA.vmax
 obtain ⟨ra, rc, c0, -, hrc, hrd, hl1, hl2⟩ := hA.rows (T.rows.length - 1) (by omega)
 have hbx := blk_cell hA.box 2
 obtain ⟨m, hm⟩ : ∃ m, T.rows.length = m + 1 := ⟨T.rows.length - 1, by omega⟩
 have ht : topI T = (T.rows[T.rows.length - 1]'(by omega)).headD nodeZ := by unfold topI; congr 1; simp [List.getD_eq_getElem?_getD, show T.rows.length - 1 < T.rows.length by omega]
 generalize T.rows[T.rows.length - 1]'(by omega) = lr at c0 hrc hrd hl1 hl2 ht
 rw [hm, Nat.add_sub_cancel] at c0
 rw [hm] at hbx hv2
 simp at hbx
 unfold rootV
 generalize topI T = x at ht ⊢
 have hm1 : ((T.rows.length : Int) - 1) = (m : Int) := by omega
 rw [hm1]
 obtain ⟨a1, e1, p0, p1, p2⟩ := at_TNode hrd 0 (by omega) (by omega)
 cases e1
 have e3 : rd_TNode lr 0 = x := by rw [ht]; cases lr with | nil => rfl | cons y l => rfl
 rw [e3] at p0 p1 p2
 have ea : ra.add (Int.toNat 0 * 3) = ra := by cases ra; simp [Addr.add]
 rw [ea] at p0 p1 p2
 have HC0 := aM' c0
 have HBX := aM' hbx
 have HP := aM' (And.intro p0 (And.intro p1 p2))
 have HH : Aside0 (∀ W : World, Below W1.heap.size W1 W → Calls Tryd.prog 19 #[ptrT gt] W fun e w' => e = .returned (.int .i64 (m : Int)) ∧ W = w') := ⟨fun W hb => by
  have q := tHeight.calls gt T W (HT1.out.below hb)
  rw [hm1] at q
  exact q⟩
 have q := aM' (tNone.calls gt T W1 HT1.out)
 generalize hL : lr.length = L at *
 clear h hT hb1 hz1 hA c0 hbx p0 p1 p2 hrd e3 ht hm1 hm hv1
 go_enter Tryd.func21, Tryd.ntmps21
 go_wp2_with fail
 rw [← hW1]
 clear hW1
 refine q.out.mono ?_
 rintro e w1 ⟨rfl, rfl⟩
 go_upto_region 3 with (fail)
 refine region_inv (fun l a W => ∃ γ : Nat, a = ({ tmps := #[ptrT gt, undef, .pointer (some ⟨w.heap.size, 0, none⟩), sel (l 12) (.pointer (some ⟨γ, 0, none⟩)) (undef), ptrT gt, .bool false, undef, sel (l 0) (ptrT gt) (undef), sel (l 1) (ptrT gt) (undef), sel (l 2) (.pointer (some ⟨gt, 2, none⟩)) (undef), sel (l 3) (.slice (some va) (m + 1) cv) (undef), sel (l 4) (ptrT gt) (undef), sel (l 5) (.int .i64 (m : Int)) (undef), sel (l 6) (.pointer (some (va.add (m * 2)))) (undef), sel (l 7) (.pointer (some (va.add (m * 2)))) (undef), sel (l 8) (.pointer (some (va.add (m * 2)))) (undef), sel (l 9) (.slice (some ra) L rc) (undef), sel (l 10) (.pointer (some ra)) (undef), sel (l 11) (.agg #[.string x.f0, .int .u64 x.f1.f0, .int .u64 x.f1.f1]) (undef), undef, undef, undef, undef, undef, undef, undef], defers := [] } : Act) ∧ TrS W1 W x l γ) 14 rfl rfl (by kernel_rfl) ?h0 ?hend ?hstep
 case h0 => exact ⟨0, rfl, below_drew (Below.refl _ _), (fun h => by cases h), (fun h => by cases h)⟩
 case hstep =>
  refine rg_cons (rg_cons (rg_cons (rg_cons (rg_cons (rg_cons (rg_cons (rg_cons (rg_cons (rg_cons (rg_cons (rg_cons (rg_cons (rg_cons (rg_nil) ?s0) ?s1) ?s2) ?s3) ?s4) ?s5) ?s6) ?s7) ?s8) ?s9) ?s10) ?s11) ?s12) ?s13
  case s0 =>
   refine rg_step rfl ?_
   rintro l a W ⟨γ, rfl, hI⟩ hl hd
   clear hd
   refine rg_val (v := ptrT gt) (w' := W) rfl (by go_simp) ?_
   refine ⟨γ, ?_, ?_⟩
   ·
    simp only [Act.put, List.setIfInBounds_toArray, List.set_cons_zero, List.set_cons_succ]; rfl
   ·
    exact hI.other 0 (by decide) (by decide) (Below.refl _ _)
  case s1 =>
   refine rg_step rfl ?_
   rintro l a W ⟨γ, rfl, hI⟩ hl hd
   have d0 := hd 0 (by decide)
   clear hd
   refine rg_val (v := ptrT gt) (w' := W) rfl (by go_simp) ?_
   refine ⟨γ, ?_, ?_⟩
   ·
    simp only [Act.put, List.setIfInBounds_toArray, List.set_cons_zero, List.set_cons_succ]; rfl
   ·
    exact hI.other 1 (by decide) (by decide) (Below.refl _ _)
  case s2 =>
   refine rg_step rfl ?_
   rintro l a W ⟨γ, rfl, hI⟩ hl hd
   have d1 := hd 1 (by decide)
   clear hd
   refine rg_val (v := .pointer (some ⟨gt, 2, none⟩)) (w' := W) rfl (by go_simp) ?_
   refine ⟨γ, ?_, ?_⟩
   ·
    simp only [Act.put, List.setIfInBounds_toArray, List.set_cons_zero, List.set_cons_succ]; rfl
   ·
    exact hI.other 2 (by decide) (by decide) (Below.refl _ _)
  case s3 =>
   refine rg_step rfl ?_
   rintro l a W ⟨γ, rfl, hI⟩ hl hd
   have d2 := hd 2 (by decide)
   clear hd
   have x0 := pw_cell_below hI.hB HBX.out
   refine rg_val (v := .slice (some va) (m + 1) cv) (w' := W) rfl (by go_simp) ?_
   refine ⟨γ, ?_, ?_⟩
   ·
    simp only [Act.put, List.setIfInBounds_toArray, List.set_cons_zero, List.set_cons_succ]; rfl
   ·
    exact hI.other 3 (by decide) (by decide) (Below.refl _ _)
  case s4 =>
   refine rg_step rfl ?_
   rintro l a W ⟨γ, rfl, hI⟩ hl hd
   clear hd
   refine rg_val (v := ptrT gt) (w' := W) rfl (by go_simp) ?_
   refine ⟨γ, ?_, ?_⟩
   ·
    simp only [Act.put, List.setIfInBounds_toArray, List.set_cons_zero, List.set_cons_succ]; rfl
   ·
    exact hI.other 4 (by decide) (by decide) (Below.refl _ _)
  case s5 =>
   refine rg_step rfl ?_
   rintro l a W ⟨γ, rfl, hI⟩ hl hd
   have d4 := hd 4 (by decide)
   clear hd
   refine rg_call rfl (by go_simp; exact ⟨rfl, rfl⟩) ?_
   refine (HH.out W hI.hB).mono ?_
   rintro x W' ⟨rfl, rfl⟩
   refine ⟨_, rfl, γ, ?_, ?_⟩
   ·
    simp only [Act.put, List.setIfInBounds_toArray, List.set_cons_zero, List.set_cons_succ]; rfl
   ·
    exact hI.other 5 (by decide) (by decide) (Below.refl _ _)
  case s6 =>
   refine rg_step rfl ?_
   rintro l a W ⟨γ, rfl, hI⟩ hl hd
   have d3 := hd 3 (by decide)
   have d5 := hd 5 (by decide)
   clear hd
   refine rg_val (v := .pointer (some (va.add (m * 2)))) (w' := W) rfl (by go_simp; intro h; omega) ?_
   refine ⟨γ, ?_, ?_⟩
   ·
    simp only [Act.put, List.setIfInBounds_toArray, List.set_cons_zero, List.set_cons_succ]; rfl
   ·
    exact hI.other 6 (by decide) (by decide) (Below.refl _ _)
  case s7 =>
   refine rg_step rfl ?_
   rintro l a W ⟨γ, rfl, hI⟩ hl hd
   have d6 := hd 6 (by decide)
   clear hd
   refine rg_val (v := .pointer (some (va.add (m * 2)))) (w' := W) rfl (by go_simp) ?_
   refine ⟨γ, ?_, ?_⟩
   ·
    simp only [Act.put, List.setIfInBounds_toArray, List.set_cons_zero, List.set_cons_succ]; rfl
   ·
    exact hI.other 7 (by decide) (by decide) (Below.refl _ _)
  case s8 =>
   refine rg_step rfl ?_
   rintro l a W ⟨γ, rfl, hI⟩ hl hd
   have d7 := hd 7 (by decide)
   clear hd
   refine rg_val (v := .pointer (some (va.add (m * 2)))) (w' := W) rfl (by go_simp) ?_
   refine ⟨γ, ?_, ?_⟩
   ·
    simp only [Act.put, List.setIfInBounds_toArray, List.set_cons_zero, List.set_cons_succ]; rfl
   ·
    exact hI.other 8 (by decide) (by decide) (Below.refl _ _)
  case s9 =>
   refine rg_step rfl ?_
   rintro l a W ⟨γ, rfl, hI⟩ hl hd
   have d8 := hd 8 (by decide)
   clear hd
   have x0 := pw_cell_below hI.hB HC0.out
   refine rg_val (v := .slice (some ra) L rc) (w' := W) rfl (by go_simp) ?_
   refine ⟨γ, ?_, ?_⟩
   ·
    simp only [Act.put, List.setIfInBounds_toArray, List.set_cons_zero, List.set_cons_succ]; rfl
   ·
    exact hI.other 9 (by decide) (by decide) (Below.refl _ _)
  case s10 =>
   refine rg_step rfl ?_
   rintro l a W ⟨γ, rfl, hI⟩ hl hd
   have d9 := hd 9 (by decide)
   clear hd
   refine rg_val (v := .pointer (some ra)) (w' := W) rfl (by go_simp; intro h; omega) ?_
   refine ⟨γ, ?_, ?_⟩
   ·
    simp only [Act.put, List.setIfInBounds_toArray, List.set_cons_zero, List.set_cons_succ]; rfl
   ·
    exact hI.other 10 (by decide) (by decide) (Below.refl _ _)
  case s11 =>
   refine rg_step rfl ?_
   rintro l a W ⟨γ, rfl, hI⟩ hl hd
   have d10 := hd 10 (by decide)
   clear hd
   have x0 := pw_cell_below hI.hB HP.out.1
   have x1 := pw_cell_below hI.hB HP.out.2.1
   have x2 := pw_cell_below hI.hB HP.out.2.2
   refine rg_val (v := .agg #[.string x.f0, .int .u64 x.f1.f0, .int .u64 x.f1.f1]) (w' := W) rfl (by go_simp) ?_
   refine ⟨γ, ?_, ?_⟩
   ·
    simp only [Act.put, List.setIfInBounds_toArray, List.set_cons_zero, List.set_cons_succ]; rfl
   ·
    exact hI.other 11 (by decide) (by decide) (Below.refl _ _)
  case s12 =>
   refine rg_step rfl ?_
   rintro l a W ⟨γ, rfl, hI⟩ hl hd
   clear hd
   refine rg_val (v := .pointer (some ⟨W.heap.size, 0, none⟩)) (w' := W.alloc (.cells #[.string ⟨#[]⟩, .int .u64 0, .int .u64 0] 46 (0, 0))) rfl (by go_simp) ?_
   refine ⟨W.heap.size, ?_, ?_⟩
   ·
    simp only [Act.put, List.setIfInBounds_toArray, List.set_cons_zero, List.set_cons_succ]; rfl
   ·
    exact hI.alloc hl
  case s13 =>
   refine rg_step rfl ?_
   rintro l a W ⟨γ, rfl, hI⟩ hl hd
   have d11 := hd 11 (by decide)
   have d12 := hd 12 (by decide)
   clear hd
   have hg := (hI.hg d12).2
   rw [show l 13 = false from hl, if_neg (by decide)] at hg
   have y0 := blk_cell hg 0
   have y1 := blk_cell hg 1
   have y2 := blk_cell hg 2
   have yf := fun i => blk_frozen hg i
   simp at y0 y1 y2
   refine rg_skip rfl (by go_simp; rfl) ?_
   refine ⟨γ, ?_, ?_⟩
   ·
    simp only [Act.put, List.setIfInBounds_toArray, List.set_cons_zero, List.set_cons_succ]; rfl
   ·
    exact hI.store d12 hl
 case hend =>
  rintro l a W ⟨γ, rfl, hI⟩ hall
  have e0 := hall 0 (by decide)
  have e1 := hall 1 (by decide)
  have e2 := hall 2 (by decide)
  have e3 := hall 3 (by decide)
  have e4 := hall 4 (by decide)
  have e5 := hall 5 (by decide)
  have e6 := hall 6 (by decide)
  have e7 := hall 7 (by decide)
  have e8 := hall 8 (by decide)
  have e9 := hall 9 (by decide)
  have e10 := hall 10 (by decide)
  have e11 := hall 11 (by decide)
  have e12 := hall 12 (by decide)
  have e13 := hall 13 (by decide)
  clear hall
  have hn := hI.hg e12
  rw [if_pos e13] at hn
  obtain ⟨hn0, hn1⟩ := hn
  simp only [e0, e1, e2, e3, e4, e5, e6, e7, e8, e9, e10, e11, e12, e13, sel_true]
  clear e0 e1 e2 e3 e4 e5 e6 e7 e8 e9 e10 e11 e12 e13
  have hB2 := hI.hB
  have HN := aM' hn1
  have HN0 := aM' hn0
  have HB2 := aM' hB2
  clear hI hn0 hn1 hB2
  go_upto_region 4 with (fail)
  obtain ⟨W2, rfl⟩ : ∃ V, V = W := ⟨_, rfl⟩
  refine region_inv (fun l a W => a = ({ tmps := #[ptrT gt, undef, .pointer (some ⟨w.heap.size, 0, none⟩), .pointer (some ⟨γ, 0, none⟩), ptrT gt, .bool false, undef, ptrT gt, ptrT gt, .pointer (some ⟨gt, 2, none⟩), .slice (some va) (m + 1) cv, ptrT gt, .int .i64 (m : Int), .pointer (some (va.add (m * 2))), .pointer (some (va.add (m * 2))), .pointer (some (va.add (m * 2))), .slice (some ra) L rc, .pointer (some ra), .agg #[.string x.f0, .int .u64 x.f1.f0, .int .u64 x.f1.f1], sel (l 0) (.pointer (some ⟨γ, 0, none⟩)) (undef), sel (l 1) (.string x.f0) (undef), sel (l 2) (.pointer (some ⟨γ, 1, none⟩)) (undef), sel (l 3) (.agg #[.int .u64 x.f1.f0, .int .u64 x.f1.f1]) (undef), sel (l 4) (ptrT gt) (undef), sel (l 5) (.int .i64 (m : Int)) (undef), sel (l 6) (.agg #[.string x.f0, .int .u64 x.f1.f0, .int .u64 x.f1.f1, .int .i64 (m : Int)]) (undef)], defers := [] } : Act) ∧ TrS4 w W1 W2 W x (m : Int) l) 8 rfl rfl (by kernel_rfl) ?h0 ?hend ?hstep
  case h0 => exact ⟨rfl, ⟨fun _ => HB2.out.trans ((below_drew (Below.refl _ _)).mono HB2.out.size), fun _ => below_drew (Below.refl _ _), by rw [if_neg (by decide)]; exact blk_below HZ1.out (HB2.out.trans ((below_drew (Below.refl _ _)).mono HB2.out.size)), HB1.out.trans ((HB2.out.trans ((below_drew (Below.refl _ _)).mono HB2.out.size)).mono HB1.out.size), fun h => by cases h⟩⟩
  case hstep =>
   refine rg_cons (rg_cons (rg_cons (rg_cons (rg_cons (rg_cons (rg_cons (rg_cons (rg_nil) ?s0) ?s1) ?s2) ?s3) ?s4) ?s5) ?s6) ?s7
   case s0 =>
    refine rg_step rfl ?_
    rintro l a W ⟨rfl, hI⟩ hl hd
    clear hd
    refine rg_val (v := .pointer (some ⟨γ, 0, none⟩)) (w' := W) rfl (by go_simp) ?_
    refine ⟨?_, ?_⟩
    ·
     simp only [Act.put, List.setIfInBounds_toArray, List.set_cons_zero, List.set_cons_succ]; rfl
    ·
     exact hI.other 0 (by decide) hl
   case s1 =>
    refine rg_step rfl ?_
    rintro l a W ⟨rfl, hI⟩ hl hd
    have d0 := hd 0 (by decide)
    clear hd
    have hb := hI.hC (hI.no (show 1 < 7 by decide) hl)
    have y0 := blk_cell (blk_below HN.out hb) 0
    have y1 := blk_cell (blk_below HN.out hb) 1
    have y2 := blk_cell (blk_below HN.out hb) 2
    simp at y0 y1 y2
    refine rg_val (v := .string x.f0) (w' := W) rfl (by go_simp) ?_
    refine ⟨?_, ?_⟩
    ·
     simp only [Act.put, List.setIfInBounds_toArray, List.set_cons_zero, List.set_cons_succ]; rfl
    ·
     exact hI.other 1 (by decide) hl
   case s2 =>
    refine rg_step rfl ?_
    rintro l a W ⟨rfl, hI⟩ hl hd
    clear hd
    refine rg_val (v := .pointer (some ⟨γ, 1, none⟩)) (w' := W) rfl (by go_simp) ?_
    refine ⟨?_, ?_⟩
    ·
     simp only [Act.put, List.setIfInBounds_toArray, List.set_cons_zero, List.set_cons_succ]; rfl
    ·
     exact hI.other 2 (by decide) hl
   case s3 =>
    refine rg_step rfl ?_
    rintro l a W ⟨rfl, hI⟩ hl hd
    have d2 := hd 2 (by decide)
    clear hd
    have hb := hI.hC (hI.no (show 3 < 7 by decide) hl)
    have y0 := blk_cell (blk_below HN.out hb) 0
    have y1 := blk_cell (blk_below HN.out hb) 1
    have y2 := blk_cell (blk_below HN.out hb) 2
    simp at y0 y1 y2
    refine rg_val (v := .agg #[.int .u64 x.f1.f0, .int .u64 x.f1.f1]) (w' := W) rfl (by go_simp) ?_
    refine ⟨?_, ?_⟩
    ·
     simp only [Act.put, List.setIfInBounds_toArray, List.set_cons_zero, List.set_cons_succ]; rfl
    ·
     exact hI.other 3 (by decide) hl
   case s4 =>
    refine rg_step rfl ?_
    rintro l a W ⟨rfl, hI⟩ hl hd
    clear hd
    refine rg_val (v := ptrT gt) (w' := W) rfl (by go_simp) ?_
    refine ⟨?_, ?_⟩
    ·
     simp only [Act.put, List.setIfInBounds_toArray, List.set_cons_zero, List.set_cons_succ]; rfl
    ·
     exact hI.other 4 (by decide) hl
   case s5 =>
    refine rg_step rfl ?_
    rintro l a W ⟨rfl, hI⟩ hl hd
    have d4 := hd 4 (by decide)
    clear hd
    refine rg_call rfl (by go_simp; exact ⟨rfl, rfl⟩) ?_
    refine (HH.out W (hI.hB (hI.no (show 5 < 7 by decide) hl))).mono ?_
    rintro x W' ⟨rfl, rfl⟩
    refine ⟨_, rfl, ?_, ?_⟩
    ·
     simp only [Act.put, List.setIfInBounds_toArray, List.set_cons_zero, List.set_cons_succ]; rfl
    ·
     exact hI.other 5 (by decide) hl
   case s6 =>
    refine rg_step rfl ?_
    rintro l a W ⟨rfl, hI⟩ hl hd
    have d1 := hd 1 (by decide)
    have d3 := hd 3 (by decide)
    have d5 := hd 5 (by decide)
    clear hd
    refine rg_val (v := .agg #[.string x.f0, .int .u64 x.f1.f0, .int .u64 x.f1.f1, .int .i64 (m : Int)]) (w' := W) rfl (by go_simp) ?_
    refine ⟨?_, ?_⟩
    ·
     simp only [Act.put, List.setIfInBounds_toArray, List.set_cons_zero, List.set_cons_succ]; rfl
    ·
     exact hI.other 6 (by decide) hl
   case s7 =>
    refine rg_step rfl ?_
    rintro l a W ⟨rfl, hI⟩ hl hd
    have d0 := hd 0 (by decide)
    have d1 := hd 1 (by decide)
    have d2 := hd 2 (by decide)
    have d3 := hd 3 (by decide)
    have d4 := hd 4 (by decide)
    have d5 := hd 5 (by decide)
    have d6 := hd 6 (by decide)
    clear hd
    have hz := hI.hz
    rw [show l 7 = false from hl, if_neg (by decide)] at hz
    have z0 := blk_cell hz 0
    have z1 := blk_cell hz 1
    have z2 := blk_cell hz 2
    have z3 := blk_cell hz 3
    have zf := fun i => blk_frozen hz i
    simp at z0 z1 z2 z3
    refine rg_skip rfl (by go_simp; rfl) ?_
    refine ⟨?_, ?_⟩
    ·
     simp only [Act.put, List.setIfInBounds_toArray, List.set_cons_zero, List.set_cons_succ]; rfl
    ·
     exact hI.store hl (fun i hi => by match i, hi with | 0, _ => exact d0 | 1, _ => exact d1 | 2, _ => exact d2 | 3, _ => exact d3 | 4, _ => exact d4 | 5, _ => exact d5 | 6, _ => exact d6)
  case hend =>
   rintro l a W ⟨rfl, hI⟩ hall
   have e0 := hall 0 (by decide)
   have e1 := hall 1 (by decide)
   have e2 := hall 2 (by decide)
   have e3 := hall 3 (by decide)
   have e4 := hall 4 (by decide)
   have e5 := hall 5 (by decide)
   have e6 := hall 6 (by decide)
   have e7 := hall 7 (by decide)
   clear hall
   have hx7 := e7
   simp only [e0, e1, e2, e3, e4, e5, e6, e7, sel_true]
   clear e0 e1 e2 e3 e4 e5 e6 e7
   have hz := hI.hz
   rw [if_pos hx7] at hz
   have z0 := blk_cell hz 0
   have z1 := blk_cell hz 1
   have z2 := blk_cell hz 2
   have z3 := blk_cell hz 3
   simp at z0 z1 z2 z3
   have HBF := aM' hI.hD
   clear hI hz hx7
   go_wp2
   refine bodyPost_ret (v := .agg #[.string x.f0, .int .u64 x.f1.f0, .int .u64 x.f1.f1, .int .i64 (m : Int)]) ?_ rfl ⟨rfl, HBF.out⟩
   simp [results, Tryd.results21, go_sem, hu5, z0, z1, z2, z3]
end Go.Proofs.YtfcodmdckcihmaaDoor.P
namespace Go.Proofs.YtfcodmdckcihmaaDoor.P
open Go.RowKit Go.Proofs.YtfcodmdckcihmaaDoorW.PrintWords Go.Proofs.YtfcodmdckcihmaaDoorW.PrintLast Go.Proofs.YtfcodmdckcihmaaDoorW.PrintMore
set_option linter.unusedVariables false
set_option linter.unusedSimpArgs false
set_option linter.unnecessarySimpa false
attribute [local go_sem] Oper.semAt_some
def KeepS (S : Nat → Prop) (W W' : World) : Prop := ∀ k, S k → W'.heap[k]? = W.heap[k]?
theorem KeepS.trans {S : Nat → Prop} {A B C : World} (h : KeepS S A B) (k : KeepS S B C) : KeepS S A C := fun i hi => (k i hi).trans (h i hi)
theorem KeepS.alloc {S : Nat → Prop} {W w : World} (h : KeepS S W w) (hlt : ∀ k, S k → k < W.heap.size) (v : Obj) : KeepS S W (w.alloc v).drew := fun k hk => by
 have h1 := h k hk
 have h2 : k < w.heap.size := by
  rw [Array.getElem?_eq_getElem (hlt k hk)] at h1
  exact (Array.getElem?_eq_some_iff.1 h1).1
 exact ((World.grownBy_alloc w v none).block k h2 (by simp)).trans h1
theorem grown_drew (W : World) : W.grownBy W.drew none := ⟨rfl, rfl, rfl, Nat.le_refl _, fun _ _ _ => rfl⟩
end Go.Proofs.YtfcodmdckcihmaaDoor.P
namespace Go.Proofs.YtfcodmdckcihmaaDoor.P
open Go.RowKit Go.Proofs.YtfcodmdckcihmaaDoorW.PrintWords Go.Proofs.YtfcodmdckcihmaaDoorW.PrintLast Go.Proofs.YtfcodmdckcihmaaDoorW.PrintMore
set_option linter.unusedVariables false
set_option linter.unusedSimpArgs false
set_option linter.unnecessarySimpa false
attribute [local go_sem] Oper.semAt_some
abbrev nodeJ (j : ByteArray × Int × Int × Int) : SNode := ⟨j.1, ⟨j.2.1, j.2.2.1⟩⟩
abbrev nodeA (n : SNode) : Array Value := #[.string n.f0, .int .u64 n.f1.f0, .int .u64 n.f1.f1]
structure Clim (w : World) (wd : Int) (st r2 : SNode) (r3 : Int) (W : World) : Prop where
 h0 : W.heap[w.heap.size]? = some (.cells #[.int .i64 wd] 3 (0, 0))
 h1 : W.heap[w.heap.size + 1]? = some (.cells (nodeA st) 46 (0, 0))
 h2 : W.heap[w.heap.size + 1 + 1]? = some (.cells (nodeA r2) 46 (0, 0))
 h3 : W.heap[w.heap.size + 1 + 1 + 1]? = some (.cells #[.int .i64 r3] 26 (0, 0))
 hB : Below w.heap.size w W
theorem Clim.lt {w W : World} {wd r3 : Int} {st r2 : SNode} (h : Clim w wd st r2 r3 W) : w.heap.size + 1 + 1 + 1 < W.heap.size := blk_lt h.h3
theorem Clim.below {w W W' : World} {wd r3 : Int} {st r2 : SNode} (h : Clim w wd st r2 r3 W) (hb : Below W.heap.size W W') : Clim w wd st r2 r3 W' :=
 ⟨blk_below h.h0 hb, blk_below h.h1 hb, blk_below h.h2 hb, blk_below h.h3 hb, h.hB.trans (hb.mono h.hB.size)⟩
theorem Clim.own {w X Y : World} {wd r3 : Int} {st r2 : SNode} {B : Nat} {row : Option Nat} (h : Clim w wd st r2 r3 X) (hg : X.grownBy Y row) (hlt : w.heap.size + 1 + 1 + 1 < B) (hr : ∀ r, row = some r → B ≤ r) : Clim w wd st r2 r3 Y := by
 have hl := h.lt
 have hk : ∀ k, k ≤ w.heap.size + 1 + 1 + 1 → Y.heap[k]? = X.heap[k]? := fun k hk => hg.block k (by omega) (fun e => by have := hr k e.symm; omega)
 exact ⟨(hk _ (by omega)).trans h.h0, (hk _ (by omega)).trans h.h1, (hk _ (by omega)).trans h.h2, (hk _ (by omega)).trans h.h3, ⟨hg.os.trans h.hB.os, hg.tape.trans h.hB.tape, hg.output.trans h.hB.output, Nat.le_trans h.hB.size hg.size, fun i hi => (hk i (by omega)).trans (h.hB.block i hi)⟩⟩
theorem Clim.put {w W : World} {wd r3 : Int} {st r2 : SNode} (h : Clim w wd st r2 r3 W) (x : SNode) (e : Int) :
  Clim w wd st x e ((((W.setCell ⟨w.heap.size + 1 + 1, 0, none⟩ (.string x.f0)).setCell ⟨w.heap.size + 1 + 1, 1, none⟩ (.int .u64 x.f1.f0)).setCell ⟨w.heap.size + 1 + 1, 2, none⟩ (.int .u64 x.f1.f1)).setCell ⟨w.heap.size + 1 + 1 + 1, 0, none⟩ (.int .i64 e)) := by
 have a1 := blk_put (cs' := nodeA ⟨x.f0, r2.f1⟩) h.h2 0 (.string x.f0) rfl
 have a2 := blk_put (cs' := nodeA ⟨x.f0, ⟨x.f1.f0, r2.f1.f1⟩⟩) a1 1 (.int .u64 x.f1.f0) rfl
 have a3 := blk_put (cs' := nodeA x) a2 2 (.int .u64 x.f1.f1) rfl
 exact ⟨blk_far (blk_far (blk_far (blk_far h.h0 (by (try dsimp only); omega) _) (by (try dsimp only); omega) _) (by (try dsimp only); omega) _) (by (try dsimp only); omega) _, blk_far (blk_far (blk_far (blk_far h.h1 (by (try dsimp only); omega) _) (by (try dsimp only); omega) _) (by (try dsimp only); omega) _) (by (try dsimp only); omega) _,
  blk_far a3 (by (try dsimp only); omega) _, blk_put (blk_far (blk_far (blk_far h.h3 (by (try dsimp only); omega) _) (by (try dsimp only); omega) _) (by (try dsimp only); omega) _) 0 (.int .i64 e) rfl,
  below_set (below_set (below_set (below_set h.hB (by (try dsimp only); omega)) (by (try dsimp only); omega)) (by (try dsimp only); omega)) (by (try dsimp only); omega)⟩
theorem Clim.step {w W : World} {wd r3 : Int} {st r2 : SNode} (h : Clim w wd st r2 r3 W) (x : SNode) :
  Clim w wd x r2 r3 (((W.setCell ⟨w.heap.size + 1, 0, none⟩ (.string x.f0)).setCell ⟨w.heap.size + 1, 1, none⟩ (.int .u64 x.f1.f0)).setCell ⟨w.heap.size + 1, 2, none⟩ (.int .u64 x.f1.f1)) := by
 have a1 := blk_put (cs' := nodeA ⟨x.f0, st.f1⟩) h.h1 0 (.string x.f0) rfl
 have a2 := blk_put (cs' := nodeA ⟨x.f0, ⟨x.f1.f0, st.f1.f1⟩⟩) a1 1 (.int .u64 x.f1.f0) rfl
 have a3 := blk_put (cs' := nodeA x) a2 2 (.int .u64 x.f1.f1) rfl
 exact ⟨blk_far (blk_far (blk_far h.h0 (by (try dsimp only); omega) _) (by (try dsimp only); omega) _) (by (try dsimp only); omega) _, a3, blk_far (blk_far (blk_far h.h2 (by (try dsimp only); omega) _) (by (try dsimp only); omega) _) (by (try dsimp only); omega) _, blk_far (blk_far (blk_far h.h3 (by (try dsimp only); omega) _) (by (try dsimp only); omega) _) (by (try dsimp only); omega) _,
  below_set (below_set (below_set h.hB (by (try dsimp only); omega)) (by (try dsimp only); omega)) (by (try dsimp only); omega)⟩
theorem put3 {W : World} {g : Nat} {z : SNode} (h : W.heap[g]? = some (.cells (nodeA z) 46 (0, 0))) (x : SNode) :
  (((W.setCell ⟨g, 0, none⟩ (.string x.f0)).setCell ⟨g, 1, none⟩ (.int .u64 x.f1.f0)).setCell ⟨g, 2, none⟩ (.int .u64 x.f1.f1)).heap[g]? = some (.cells (nodeA x) 46 (0, 0)) := by
 have a1 := blk_put (cs' := nodeA ⟨x.f0, z.f1⟩) h 0 (.string x.f0) rfl
 have a2 := blk_put (cs' := nodeA ⟨x.f0, ⟨x.f1.f0, z.f1.f1⟩⟩) a1 1 (.int .u64 x.f1.f0) rfl
 exact blk_put (cs' := nodeA x) a2 2 (.int .u64 x.f1.f1) rfl
theorem far3 {W : World} {g k : Nat} {o : Obj} (h : W.heap[k]? = some o) (hn : k ≠ g) (a b c : Value) : (((W.setCell ⟨g, 0, none⟩ a).setCell ⟨g, 1, none⟩ b).setCell ⟨g, 2, none⟩ c).heap[k]? = some o := by
 rw [Below.heap_setCell _ _ _ _ hn, Below.heap_setCell _ _ _ _ hn, Below.heap_setCell _ _ _ _ hn]
 exact h
theorem below3 {W V : World} (h : Below W.heap.size W V) {g : Nat} (hg : W.heap.size ≤ g) (a b c : Value) : Below W.heap.size W (((V.setCell ⟨g, 0, none⟩ a).setCell ⟨g, 1, none⟩ b).setCell ⟨g, 2, none⟩ c) :=
 below_set (below_set (below_set h hg) hg) hg
structure Two (W : World) (b12 b13 : Nat) (x s : SNode) (W' : World) : Prop where
 ne : b12 ≠ b13
 l12 : W.heap.size ≤ b12
 l13 : W.heap.size ≤ b13
 hB : Below W.heap.size W W'
 h12 : W'.heap[b12]? = some (.cells (nodeA x) 46 (0, 0))
 h13 : W'.heap[b13]? = some (.cells (nodeA s) 46 (0, 0))
theorem Two.put {W V : World} {b12 b13 : Nat} {x s : SNode} (h : Two W b12 b13 x s V) (x' s' : SNode) :
  Two W b12 b13 x' s' ((((((V.setCell ⟨b12, 0, none⟩ (.string x'.f0)).setCell ⟨b12, 1, none⟩ (.int .u64 x'.f1.f0)).setCell ⟨b12, 2, none⟩ (.int .u64 x'.f1.f1)).setCell ⟨b13, 0, none⟩ (.string s'.f0)).setCell ⟨b13, 1, none⟩ (.int .u64 s'.f1.f0)).setCell ⟨b13, 2, none⟩ (.int .u64 s'.f1.f1)) :=
 ⟨h.ne, h.l12, h.l13, below3 (below3 h.hB h.l12 _ _ _) h.l13 _ _ _, far3 (put3 h.h12 x') h.ne _ _ _, put3 (far3 h.h13 (Ne.symm h.ne) _ _ _) s'⟩
end Go.Proofs.YtfcodmdckcihmaaDoor.P
namespace Go.Proofs.YtfcodmdckcihmaaDoor.P
open Go.RowKit Go.Proofs.YtfcodmdckcihmaaDoorW.PrintWords Go.Proofs.YtfcodmdckcihmaaDoorW.PrintLast Go.Proofs.YtfcodmdckcihmaaDoorW.PrintMore
set_option linter.unusedVariables false
set_option linter.unusedSimpArgs false
set_option linter.unnecessarySimpa false
def valU (u : SU128) : Int := u.f0 * 18446744073709551616 + u.f1
def totL : List SNode → Int
 | [] => 0
 | n :: l => valU n.f1 + totL l
theorem totL_append : ∀ a b : List SNode, totL (a ++ b) = totL a + totL b
 | [], b => by simp [totL]
 | n :: a, b => by rw [List.cons_append, totL, totL, totL_append a b]; omega
structure NodeK (w : Int) (n : SNode) : Prop where
 of : nodeOf w n = true
 u : OkU n.f1
theorem valU_nn {u : SU128} (h : OkU u) : 0 ≤ valU u := by have := h.h0; have := h.h1; unfold valU; omega
theorem valU_lt {u : SU128} (h : OkU u) : valU u < 340282366920938463463374607431768211456 := by have := h.h0; have := h.h1; unfold valU; omega
theorem totL_nn {w : Int} : ∀ {l : List SNode}, (∀ x ∈ l, NodeK w x) → 0 ≤ totL l
 | [], _ => by simp [totL]
 | n :: l, h => by
  have h1 := valU_nn (h n (List.mem_cons_self ..)).u
  have h2 := totL_nn (l := l) fun x hx => h x (List.mem_cons_of_mem _ hx)
  rw [totL]; omega
def joinV (w : Int) (l r : SNode) : SNode := ⟨dgI w (nodeText l r), ⟨l.f1.f0 + r.f1.f0 + (l.f1.f1 + r.f1.f1) / 18446744073709551616, (l.f1.f1 + r.f1.f1) % 18446744073709551616⟩⟩
theorem joinV_val (w : Int) (l r : SNode) : valU (joinV w l r).f1 = valU l.f1 + valU r.f1 := by unfold joinV valU; dsimp only; omega
theorem joinV_k {w : Int} {l r : SNode} (hl : NodeK w l) (hr : NodeK w r) (h : valU l.f1 + valU r.f1 < 340282366920938463463374607431768211456) : NodeK w (joinV w l r) := by
 obtain ⟨w1, w2, _⟩ := nodeOf_w hl.of
 refine ⟨?_, ?_⟩
 ·
  have e : ((joinV w l r).f0.size : Int) = w := by show ((dgI w (nodeText l r)).size : Int) = w; rw [dgI_size _ _ (by omega) w2]; omega
  simp [nodeOf, e, w1, w2]
 ·
  have h1 := hl.u.h0; have h2 := hl.u.h1; have h3 := hr.u.h0; have h4 := hr.u.h1
  unfold valU at h
  unfold joinV
  exact ⟨by dsimp only; omega, by dsimp only; omega⟩
theorem joinI_room {w : Int} {l r : SNode} (hl : NodeK w l) (hr : NodeK w r) (h : valU l.f1 + valU r.f1 < 340282366920938463463374607431768211456) : joinI w l r = ((joinV w l r).f0, (joinV w l r).f1.f0, (joinV w l r).f1.f1, 0) := by
 have h2 := hl.u.h1; have h4 := hr.u.h1
 unfold valU at h
 have ha : l.f1.f0 + r.f1.f0 + (l.f1.f1 + r.f1.f1) / 18446744073709551616 < 18446744073709551616 := by omega
 unfold joinI addI128 joinV
 rw [if_pos ⟨hl.of, hr.of⟩, if_pos ha, if_pos rfl]
theorem joinI_full {w : Int} {l r : SNode} (hl : NodeK w l) (hr : NodeK w r) (h : ¬ valU l.f1 + valU r.f1 < 340282366920938463463374607431768211456) : joinI w l r = (⟨#[]⟩, 0, 0, 10) := by
 have h2 := hl.u.h1; have h4 := hr.u.h1
 unfold valU at h
 have ha : ¬ l.f1.f0 + r.f1.f0 + (l.f1.f1 + r.f1.f1) / 18446744073709551616 < 18446744073709551616 := by omega
 unfold joinI addI128
 rw [if_pos ⟨hl.of, hr.of⟩, if_neg ha, if_neg (by decide)]
def pairsV (w : Int) : List SNode → List SNode
 | a :: b :: l => joinV w a b :: pairsV w l
 | _ => []
def pairsOk : List SNode → Bool
 | a :: b :: l => decide (valU a.f1 + valU b.f1 < 340282366920938463463374607431768211456) && pairsOk l
 | _ => true
theorem pairsV_len (w : Int) : ∀ (n : Nat) (l : List SNode), l.length = 2 * n → (pairsV w l).length = n
 | 0, [], _ => rfl
 | n + 1, a :: b :: l, h => by
  rw [pairsV, List.length_cons, pairsV_len w n l (by simp at h; omega)]
theorem pairsV_tot (w : Int) : ∀ (n : Nat) (l : List SNode), l.length = 2 * n → totL (pairsV w l) = totL l
 | 0, [], _ => rfl
 | n + 1, a :: b :: l, h => by
  rw [pairsV, totL, totL, totL, pairsV_tot w n l (by simp at h; omega), joinV_val]; omega
theorem pairsV_k {w : Int} : ∀ (n : Nat) (l : List SNode), l.length = 2 * n → (∀ x ∈ l, NodeK w x) → pairsOk l = true → ∀ x ∈ pairsV w l, NodeK w x
 | 0, [], _, _, _, x, hx => by simp [pairsV] at hx
 | n + 1, a :: b :: l, h, hk, ho, x, hx => by
  simp only [pairsOk, Bool.and_eq_true, decide_eq_true_eq] at ho
  rw [pairsV] at hx
  rcases List.mem_cons.1 hx with rfl | hx
  ·
   exact joinV_k (hk a (by simp)) (hk b (by simp)) ho.1
  ·
   exact pairsV_k n l (by simp at h; omega) (fun y hy => hk y (by simp [hy])) ho.2 x hx
theorem pairsOk_tot {w : Int} : ∀ (n : Nat) (l : List SNode), l.length = 2 * n → (∀ x ∈ l, NodeK w x) → pairsOk l = false → ¬ totL l < 340282366920938463463374607431768211456
 | 0, [], _, _, h => by simp [pairsOk] at h
 | n + 1, a :: b :: l, h, hk, ho => by
  have ha := valU_nn (hk a (by simp)).u
  have hb := valU_nn (hk b (by simp)).u
  have hl : 0 ≤ totL l := totL_nn fun y hy => hk y (by simp [hy])
  rw [totL, totL]
  by_cases h1 : valU a.f1 + valU b.f1 < 340282366920938463463374607431768211456
  ·
   have h2 : pairsOk l = false := by simpa [pairsOk, h1] using ho
   have := pairsOk_tot n l (by simp at h; omega) (fun y hy => hk y (by simp [hy])) h2
   omega
  ·
   omega
def zeroN : SNode := ⟨⟨#[]⟩, ⟨0, 0⟩⟩
def twoV (w : Int) (l : List SNode) (j : Nat) : SNode := joinV w (l.getD (2 * j) zeroN) (l.getD (2 * j + 1) zeroN)
def twoOk (l : List SNode) (j : Nat) : Prop := valU (l.getD (2 * j) zeroN).f1 + valU (l.getD (2 * j + 1) zeroN).f1 < 340282366920938463463374607431768211456
theorem pairsV_range (w : Int) : ∀ (n : Nat) (l : List SNode), l.length = 2 * n → pairsV w l = (List.range n).map (twoV w l)
 | 0, [], _ => rfl
 | n + 1, a :: b :: l, h => by
  rw [pairsV, pairsV_range w n l (by simp at h; omega), List.range_succ_eq_map, List.map_cons, List.map_map]
  congr 1
theorem pairsOk_range : ∀ (n : Nat) (l : List SNode), l.length = 2 * n → (pairsOk l = true ↔ ∀ j, j < n → twoOk l j)
 | 0, [], _ => by simp [pairsOk]
 | n + 1, a :: b :: l, h => by
  rw [pairsOk, Bool.and_eq_true, decide_eq_true_eq, pairsOk_range n l (by simp at h; omega)]
  constructor
  ·
   rintro ⟨h0, hr⟩ j hj
   match j, hj with
   | 0, _ => exact h0
   | j + 1, hj => exact hr j (by omega)
  ·
   intro hr
   exact ⟨hr 0 (by omega), fun j hj => hr (j + 1) (by omega)⟩
def treeV (w : Int) : Nat → List SNode → SNode
 | 0, l => l.headD zeroN
 | k + 1, l => joinV w (treeV w k (l.take (2 ^ k))) (treeV w k (l.drop (2 ^ k)))
theorem treeV_val {w : Int} : ∀ (k : Nat) (l : List SNode), l.length = 2 ^ k → valU (treeV w k l).f1 = totL l
 | 0, [a], _ => by simp [treeV, totL]
 | k + 1, l, h => by
  have hp : 2 ^ (k + 1) = 2 * 2 ^ k := by rw [Nat.pow_succ]; omega
  rw [treeV, joinV_val, treeV_val k _ (by rw [List.length_take]; omega), treeV_val k _ (by rw [List.length_drop]; omega), ← totL_append, List.take_append_drop]
theorem treeV_k {w : Int} : ∀ (k : Nat) (l : List SNode), l.length = 2 ^ k → (∀ x ∈ l, NodeK w x) → totL l < 340282366920938463463374607431768211456 → NodeK w (treeV w k l)
 | 0, [a], _, h, _ => h a (by simp)
 | k + 1, l, h, hk, ht => by
  have hp : 2 ^ (k + 1) = 2 * 2 ^ k := by rw [Nat.pow_succ]; omega
  have k1 : ∀ x ∈ l.take (2 ^ k), NodeK w x := fun x hx => hk x (List.mem_of_mem_take hx)
  have k2 : ∀ x ∈ l.drop (2 ^ k), NodeK w x := fun x hx => hk x (List.mem_of_mem_drop hx)
  have t := totL_append (l.take (2 ^ k)) (l.drop (2 ^ k))
  rw [List.take_append_drop] at t
  have t1 := totL_nn k1
  have t2 := totL_nn k2
  have l1 : (l.take (2 ^ k)).length = 2 ^ k := by rw [List.length_take]; omega
  have l2 : (l.drop (2 ^ k)).length = 2 ^ k := by rw [List.length_drop]; omega
  rw [treeV]
  exact joinV_k (treeV_k k _ l1 k1 (by omega)) (treeV_k k _ l2 k2 (by omega)) (by rw [treeV_val k _ l1, treeV_val k _ l2]; omega)
def isPow (n : Nat) : Bool := decide (2 ^ n.log2 = n)
theorem isPow_two (k : Nat) : isPow (2 ^ k) = true := by unfold isPow; rw [Nat.log2_two_pow]; simp
theorem isPow_spec {n : Nat} (h : isPow n = true) : ∃ k, n = 2 ^ k := ⟨n.log2, by unfold isPow at h; simpa using (of_decide_eq_true h).symm⟩
def foldI (w : Int) (l : List SNode) : ByteArray × Int × Int × Int :=
 if 1 ≤ w ∧ w ≤ 32 ∧ l.all (nodeOf w) = true then
  (if isPow l.length = true then (if totL l < 340282366920938463463374607431768211456 then ((treeV w l.length.log2 l).f0, (treeV w l.length.log2 l).f1.f0, (treeV w l.length.log2 l).f1.f1, 0) else (⟨#[]⟩, 0, 0, 10)) else (⟨#[]⟩, 0, 0, 2))
 else (⟨#[]⟩, 0, 0, 70)
theorem foldI_pow {w : Int} {l : List SNode} {k : Nat} (h1 : 1 ≤ w) (h2 : w ≤ 32) (hl : l.length = 2 ^ k) (hk : l.all (nodeOf w) = true) :
  foldI w l = if totL l < 340282366920938463463374607431768211456 then ((treeV w k l).f0, (treeV w k l).f1.f0, (treeV w k l).f1.f1, 0) else (⟨#[]⟩, 0, 0, 10) := by
 unfold foldI
 rw [if_pos ⟨h1, h2, hk⟩, hl, if_pos (isPow_two k), Nat.log2_two_pow]
theorem allK {w : Int} {l : List SNode} (h : l.all (nodeOf w) = true) (u : ∀ x ∈ l, OkU x.f1) : ∀ x ∈ l, NodeK w x := fun x hx => ⟨List.all_eq_true.1 h x hx, u x hx⟩
end Go.Proofs.YtfcodmdckcihmaaDoor.P
namespace Go.Proofs.YtfcodmdckcihmaaDoor.P
open Go.RowKit Go.Proofs.YtfcodmdckcihmaaDoorW.PrintWords Go.Proofs.YtfcodmdckcihmaaDoorW.PrintLast Go.Proofs.YtfcodmdckcihmaaDoorW.PrintMore
set_option linter.unusedVariables false
set_option linter.unusedSimpArgs false
set_option linter.unnecessarySimpa false
def levelsV (w : Int) : Nat → List SNode → List (List SNode)
 | 0, l => [l]
 | k + 1, l => l :: levelsV w k (pairsV w l)
theorem levelsV_len (w : Int) : ∀ k l, (levelsV w k l).length = k + 1
 | 0, _ => rfl
 | k + 1, l => by rw [levelsV, List.length_cons, levelsV_len w k]
def upV (w : Int) : Nat → List SNode → List SNode
 | 0, l => l
 | n + 1, l => upV w n (pairsV w l)
theorem upV_succ (w : Int) : ∀ n l, upV w (n + 1) l = pairsV w (upV w n l)
 | 0, _ => rfl
 | n + 1, l => by rw [upV, upV_succ w n]; rfl
theorem levelsV_get (w : Int) : ∀ (k n : Nat) (l : List SNode), n ≤ k → (levelsV w k l)[n]? = some (upV w n l)
 | 0, 0, _, _ => rfl
 | k + 1, 0, _, _ => rfl
 | k + 1, n + 1, l, h => by
  rw [levelsV, List.getElem?_cons_succ, levelsV_get w k n _ (by omega)]; rfl
end Go.Proofs.YtfcodmdckcihmaaDoor.P
namespace Go.Proofs.YtfcodmdckcihmaaDoor.P
open Go.RowKit Go.Proofs.YtfcodmdckcihmaaDoorW.PrintWords Go.Proofs.YtfcodmdckcihmaaDoorW.PrintLast Go.Proofs.YtfcodmdckcihmaaDoorW.PrintMore
set_option linter.unusedVariables false
set_option linter.unusedSimpArgs false
set_option linter.unnecessarySimpa false
section
variable {F : Fence} {m : Nat} {P : Program} {ops : Array Oper} {Q : Exit → Act → World → Prop}
def StepAtIn (F : Fence) (m : Nat) (P : Program) (ops : Array Oper) (Q : Exit → Act → World → Prop) (I : (Nat → Bool) → Act → World → Prop) (i : Nat) : Prop :=
 ∀ o, ops[i]? = some o → ∀ l a w, I l a w → l i = false → (∀ j ∈ rgNeeds o, l j = true) → if Region.wanted o (yielded ops a.tmps) = true then o.wpIn F m P a w (fun a' w' => I (upd l i) a' w') Q else (∀ f, o.about P w a.eval = some f → F.fn f) ∧ I (upd l i) (a.put o.dst undef) w
theorem rg_anyIn (I : (Nat → Bool) → Act → World → Prop) (hord : rgOrd ops = true) (hstep : ∀ i, i < ops.size → StepAtIn F m P ops Q I i) (hend : ∀ l a w, I l a w → (∀ i, i < ops.size → l i = true) → Q .normal a w) :
  ∀ (fuel : Nat) (arr : Array Bool) (a : Act) (w : World), arr.size = ops.size → I (fun j => arr.getD j false) a w → rgUndone ops.size (fun j => arr.getD j false) ≤ fuel → wpAnyIn F m P .any ops Q fuel arr a w := by
 have hready : ∀ arr : Array Bool, arr.size = ops.size → Region.ready .any ops arr = [] → ∀ i, i < ops.size → arr.getD i false = true := by
  intro arr hs hr i
  induction i using Nat.strongRecOn with
  | ind i ih =>
   intro hi
   cases hb : arr.getD i false with
   | true => rfl
   | false =>
    exfalso
    have ho : ops[i]? = some ops[i] := Array.getElem?_eq_getElem hi
    have hall : (rgNeeds ops[i]).all (fun j => decide (j < i)) = true := by
     have := List.all_eq_true.1 hord i (List.mem_range.2 hi)
     simp only [ho] at this
     exact this
    have hmem : i ∈ Region.ready .any ops arr := by
     unfold Region.ready
     rw [List.mem_filter]
     refine ⟨List.mem_range.2 hi, ?_⟩
     have h1 : arr.getD i true = false := by
      simp only [Array.getD_eq_getD_getElem?] at hb ⊢
      rw [Array.getElem?_eq_getElem (by omega)] at hb ⊢
      simpa using hb
     simp only [h1, Bool.not_false, Bool.true_and, ho, Option.map_some, Option.getD_some]
     rw [← Array.all_toList, List.all_eq_true]
     intro e he
     cases hbd : Region.binds .any e with
     | false => rfl
     | true =>
      have hj : e.on ∈ rgNeeds ops[i] := List.mem_map.2 ⟨e, List.mem_filter.2 ⟨he, hbd⟩, rfl⟩
      have hlt : e.on < i := by simpa using List.all_eq_true.1 hall e.on hj
      rw [ih e.on hlt (by omega)]; rfl
    rw [hr] at hmem
    exact absurd hmem (List.not_mem_nil)
 intro fuel
 induction fuel with
 | zero =>
  intro arr a w hs hI hu
  have hd := rgUndone_zero (Nat.le_zero.1 hu)
  refine ⟨?_, hend _ a w hI hd⟩
  unfold Region.ready
  rw [List.filter_eq_nil_iff]
  intro i hi
  have h1 := hd i (List.mem_range.1 hi)
  have h2 : arr.getD i true = true := by
   have hlt := List.mem_range.1 hi
   simp only [Array.getD_eq_getD_getElem?] at h1 ⊢
   rw [Array.getElem?_eq_getElem (by omega)] at h1 ⊢
   simpa using h1
  simp [h2]
 | succ fuel ih =>
  intro arr a w hs hI hu
  refine ⟨fun hr => hend _ a w hI (hready arr hs hr), fun i hi => ?_⟩
  unfold Region.ready at hi
  rw [List.mem_filter] at hi
  obtain ⟨hir, hi2⟩ := hi
  have hlt := List.mem_range.1 hir
  have ho : ops[i]? = some ops[i] := Array.getElem?_eq_getElem hlt
  simp only [ho, Option.map_some, Option.getD_some, Bool.and_eq_true, Bool.not_eq_true'] at hi2
  have hb : arr.getD i false = false := by
   have h1 := hi2.1
   simp only [Array.getD_eq_getD_getElem?] at h1 ⊢
   rw [Array.getElem?_eq_getElem (by omega)] at h1 ⊢
   simpa using h1
  have hn : ∀ j ∈ rgNeeds ops[i], arr.getD j false = true := by
   intro j hj
   obtain ⟨e, he, rfl⟩ := List.mem_map.1 hj
   obtain ⟨he1, he2⟩ := List.mem_filter.1 he
   have h3 := hi2.2
   rw [← Array.all_toList, List.all_eq_true] at h3
   have := h3 e he1
   rw [he2] at this
   simpa using this
  have hst := hstep i hlt _ ho _ a w hI hb hn
  have hK : ∀ a' w', I (upd (fun j => arr.getD j false) i) a' w' → wpAnyIn F m P .any ops Q fuel (arr.setIfInBounds i true) a' w' := by
   intro a' w' h'
   have e : (fun j => (arr.setIfInBounds i true).getD j false) = upd (fun j => arr.getD j false) i := by
    funext j
    unfold upd
    simp only [Array.getD_eq_getD_getElem?]
    by_cases e : j = i
    ·
     subst e
     rw [if_pos rfl, Array.getElem?_setIfInBounds_self_of_lt (by omega)]; rfl
    ·
     rw [if_neg e, Array.getElem?_setIfInBounds_ne (fun h => e h.symm)]
   refine ih _ a' w' (by simpa using hs) (by rw [e]; exact h') ?_
   rw [e]
   have := rgUndone_upd (l := fun j => arr.getD j false) hlt hb
   omega
  unfold wpOpIn
  rw [ho]
  dsimp only
  split
  ·
   rename_i hw
   rw [if_pos hw] at hst
   exact Oper.wpIn_mono hK hst
  ·
   rename_i hw
   rw [if_neg hw] at hst
   exact ⟨hst.1, hK _ _ hst.2⟩
theorem region_invIn {id : Nat} {a : Act} {w : World} (I : (Nat → Bool) → Act → World → Prop) (n : Nat) (hm : P.follows .mixedOrders = true) (hn : ops.size = n) (hord : rgOrd ops = true) (h0 : I (fun _ => false) a w.drew)
  (hend : ∀ l a w, I l a w → (∀ i, i < n → l i = true) → Q .normal a w) (hstep : ∀ i, i < n → StepAtIn F m P ops Q I i) : (Code.region id ops true).wpIn F m P Q a w := by
 subst hn
 refine wpIn_region_any hm (rg_anyIn I hord hstep hend ops.size _ a _ (by simp) ?_ ?_)
 ·
  have e : (fun j => (Array.replicate ops.size false).getD j false) = fun _ => false := by
   funext j
   simp only [Array.getD_eq_getD_getElem?, Array.getElem?_replicate]
   split <;> rfl
  rw [e]; exact h0
 ·
  unfold rgUndone
  have := List.countP_le_length (p := fun j => !(Array.replicate ops.size false).getD j false) (l := List.range ops.size)
  simpa using this
theorem rgi_step {I : (Nat → Bool) → Act → World → Prop} {i : Nat} {oi : Oper} (hi : ops[i]? = some oi)
  (h : ∀ l a w, I l a w → l i = false → (∀ j ∈ rgNeeds oi, l j = true) → if Region.wanted oi (yielded ops a.tmps) = true then oi.wpIn F m P a w (fun a' w' => I (upd l i) a' w') Q else (∀ f, oi.about P w a.eval = some f → F.fn f) ∧ I (upd l i) (a.put oi.dst undef) w) : StepAtIn F m P ops Q I i := by
 intro o ho
 rw [hi] at ho
 cases ho
 exact h
theorem rgi_val {K : Act → World → Prop} {oi : Oper} {a : Act} {w w' : World} {v : Value} (hF : ∀ f, F.fn f) (hw : Region.wanted oi (yielded ops a.tmps) = true) (hd : ∀ c, oi.op ≠ .defer c) (hrun : (execOp a.eval oi).run P w = .ok (.value v) w') (hK : K (a.put oi.dst v) w') :
  if Region.wanted oi (yielded ops a.tmps) = true then oi.wpIn F m P a w K Q else (∀ f, oi.about P w a.eval = some f → F.fn f) ∧ K (a.put oi.dst undef) w := by
 rw [if_pos hw]; unfold Oper.wpIn; rw [Oper.semAt_eq _ _ _ hd, hrun]; exact ⟨fun f _ => hF f, hK⟩
theorem rgi_skip {K : Act → World → Prop} {oi : Oper} {a : Act} {w w' : World} (hF : ∀ f, F.fn f) (hw : Region.wanted oi (yielded ops a.tmps) = true) (hd : ∀ c, oi.op ≠ .defer c) (hrun : (execOp a.eval oi).run P w = .ok .skip w') (hK : K (a.put oi.dst undef) w') :
  if Region.wanted oi (yielded ops a.tmps) = true then oi.wpIn F m P a w K Q else (∀ f, oi.about P w a.eval = some f → F.fn f) ∧ K (a.put oi.dst undef) w := by
 rw [if_pos hw]; unfold Oper.wpIn; rw [Oper.semAt_eq _ _ _ hd, hrun]; exact ⟨fun f _ => hF f, hK⟩
theorem rgi_call {K : Act → World → Prop} {oi : Oper} {a : Act} {w : World} {f : FuncId} {args : Array Value} (hF : ∀ f, F.fn f) (hdp : F.depth = none) (hw : Region.wanted oi (yielded ops a.tmps) = true) (hd : ∀ c, oi.op ≠ .defer c) (hrun : (execOp a.eval oi).run P w = .ok (.enter f args) w)
  (h : CallsIn F (m - 1) P f args w fun e w' => ∃ v, e = .returned v ∧ K (a.put oi.dst v) w') :
  if Region.wanted oi (yielded ops a.tmps) = true then oi.wpIn F m P a w K Q else (∀ f, oi.about P w a.eval = some f → F.fn f) ∧ K (a.put oi.dst undef) w := by
 rw [if_pos hw]; unfold Oper.wpIn; rw [Oper.semAt_eq _ _ _ hd, hrun]
 rw [Oper.uponIn_enter]
 refine And.intro (fun f _ => hF f) (And.intro (fun h => by rw [hdp] at h; cases h) ?_)
 exact h.mono fun e w' ⟨v, he, hk⟩ => by subst he; exact hk
theorem li_val {w w' : World} {rest : List Oper} {o : Oper} {a : Act} {v : Value} (hg : o.guard = none) (hF : ∀ f, F.fn f) (hd : ∀ c, o.op ≠ .defer c) (hrun : (execOp a.eval o).run P w = .ok (.value v) w') (hK : wpListIn F m P ops Q rest (a.put o.dst v) w') : wpListIn F m P ops Q (o :: rest) a w := by
 refine wpListIn_plain hg fun K hK' => ?_
 unfold Oper.wpIn; rw [Oper.semAt_eq _ _ _ hd, hrun]; exact ⟨fun f _ => hF f, hK' _ _ hK⟩
theorem li_skip {w w' : World} {rest : List Oper} {o : Oper} {a : Act} (hg : o.guard = none) (hF : ∀ f, F.fn f) (hd : ∀ c, o.op ≠ .defer c) (hrun : (execOp a.eval o).run P w = .ok .skip w') (hK : wpListIn F m P ops Q rest (a.put o.dst undef) w') : wpListIn F m P ops Q (o :: rest) a w := by
 refine wpListIn_plain hg fun K hK' => ?_
 unfold Oper.wpIn; rw [Oper.semAt_eq _ _ _ hd, hrun]; exact ⟨fun f _ => hF f, hK' _ _ hK⟩
end
end Go.Proofs.YtfcodmdckcihmaaDoor.P
namespace Go.Proofs.YtfcodmdckcihmaaDoor.P
open Go.RowKit Go.Proofs.YtfcodmdckcihmaaDoorW.PrintWords Go.Proofs.YtfcodmdckcihmaaDoorW.PrintLast Go.Proofs.YtfcodmdckcihmaaDoorW.PrintMore
set_option linter.unusedVariables false
set_option linter.unusedSimpArgs false
set_option linter.unnecessarySimpa false
attribute [local go_sem] Oper.semAt_some sel_true
theorem chunk.calls (A : Option Addr) (m c : Nat) (w : World) : Calls Tryd.prog 58 #[.slice A m c, .int .i64 2] w fun e w' => e = .returned (.func (.func 95) #[] #[.pointer (some ⟨w.heap.size, 0, none⟩), .pointer (some ⟨w.heap.size + 1, 0, none⟩)]) ∧ w' = (w.alloc (.cells #[.slice A m c] 43)).alloc (.cells #[.int .i64 2] 3) := by
 go_enter Tryd.func58, Tryd.ntmps58
 go_wp2
 go_ret
 exact ⟨rfl, rfl⟩
def chunkV (ad : Addr) (j : Nat) : Value := .slice (some (ad.add (2 * j * 3))) 2 2
theorem slice_from (ad : Addr) (M c i : Nat) (h : i < M) (hc : M ≤ c) (wx : World) : (Instr.slice 43 (.slice (some ad) M c) (some (.int .i64 i)) none none).run Tryd.prog wx = .ok (.slice (some (ad.add (i * 3))) (M - i) (c - i)) wx := by
 have h1 := run_slice_l (P := Tryd.prog) wx 43 (some ad) M c (by kernel_rfl) .i64 (i : Int) (by omega) (by omega)
 rw [h1]
 have hs : (sizeOf (Tryd.prog.elem 43)).run Tryd.prog wx = .ok 3 wx := by kernel_rfl
 rw [hs]
 simp only [Result.andThen, sliced, Int.toNat_natCast]
 rw [if_neg (by omega)]; rfl
theorem slice_two (ad : Addr) (M c i : Nat) (h : i + 2 ≤ M) (hc : M ≤ c) (wx : World) : (Instr.slice 43 (.slice (some ad) M c) (some (.int .i64 i)) (some (.int .i64 ((i : Int) + 2))) (some (.int .i64 ((i : Int) + 2)))).run Tryd.prog wx = .ok (.slice (some (ad.add (i * 3))) 2 2) wx := by
 have h1 := run_slice_lhm (P := Tryd.prog) wx 43 (some ad) M c (by kernel_rfl) .i64 .i64 .i64 (i : Int) ((i : Int) + 2) ((i : Int) + 2) (by omega) (by omega) (by omega) (by omega)
 rw [h1]
 have hs : (sizeOf (Tryd.prog.elem 43)).run Tryd.prog wx = .ok 3 wx := by kernel_rfl
 rw [hs]
 simp only [Result.andThen, sliced, Int.toNat_natCast, show ((i : Int) + 2).toNat = i + 2 by omega]
 rw [if_neg (by omega)]
 simp
set_option maxRecDepth 100000 in
set_option maxHeartbeats 1000000 in
theorem chunk1_in (n : Nat) (hn : 1 ≤ n) (lp sb nb B : Nat) (ad : Addr) (m M c : Nat) (hM : M = 2 * m) (hm : m ≤ 1000000) (hmc : M ≤ c) (S : Nat → Prop) (hSs : S sb) (hSn : S nb)
  (J Jx : List Nat → World → Prop) (hJ : AbidesFrom B J)
  (hY : ∀ j W, J (List.range j) W → j < m → YieldAt Fence.wide (n - 1) Tryd.prog lp #[chunkV ad j] W fun e W' => (e = .returned (.bool true) ∧ J (List.range (j + 1)) W' ∧ KeepS S W W') ∨ (e = .returned (.bool false) ∧ Jx (List.range (j + 1)) W'))
  (W : World) (hs : W.heap[sb]? = some (.cells #[.slice (some ad) M c] 43 (0, 0))) (hpb : W.heap[nb]? = some (.cells #[.int .i64 2] 3 (0, 0))) (h0 : J [] W) :
  CallsIn Fence.wide n Tryd.prog 95 #[.func (.yield lp) #[] #[], .pointer (some ⟨sb, 0, none⟩), .pointer (some ⟨nb, 0, none⟩)] W fun e W' => (∃ v, e = .returned v) ∧ (J (List.range m) W' ∨ ∃ j, j ≤ m ∧ Jx (List.range j) W') := by
 have HS := aM' hs
 have HP := aM' hpb
 have HJ := aM' hJ
 have HY := aM' hY
 have HM := aM' hm
 have HMC := aM' hmc
 have HMM := aM' hM
 clear hs hpb hJ hY hm hmc hM
 refine callsIn_of_wp Tryd.func95 rfl trivial ?_
 simp only [Tryd.ntmps95, List.size_toArray, List.length_cons, List.length_nil, Nat.reduceAdd, Nat.reduceSub, Array.replicate_succ, Array.replicate_zero, List.push_toArray, List.append_toArray, List.nil_append, List.cons_append]
 gi_wp2
 gi_loopw [4] (fun v wr => ∃ i j : Nat, v = .int .i64 i ∧ Aside0 (i = 2 * j ∧ j ≤ m) ∧ Aside0 (J (List.range j) wr) ∧ Aside0 (KeepS S W wr)) (fun v _ => M - (intOf v).toNat)
 case atStart => exact ⟨0, 0, rfl, ⟨rfl, Nat.zero_le _⟩, ⟨h0⟩, ⟨fun _ _ => rfl⟩⟩
 case round =>
  obtain ⟨i, j, rfl, HI, HJs, HK⟩ := hrel
  have x0 : wr.cell? ⟨sb, 0, none⟩ = some (.slice (some ad) M c) := blk_cell ((HK.out sb hSs).trans HS.out) 0
  have x1 : wr.cell? ⟨nb, 0, none⟩ = some (.int .i64 2) := blk_cell ((HK.out nb hSn).trans HP.out) 0
  by_cases hlt : j < m
  ·
   have hi2 : i + 2 ≤ M := by have := HI.out; have := HMM.out; omega
   have b1 : decide (i < M) = true := decide_eq_true (by omega)
   have s1 := fun wx => slice_from ad M c i (by omega) HMC.out wx
   have s2 := fun wx => slice_two ad M c i hi2 HMC.out wx
   have wi : wrap64 ((i : Int) + 2) = (i : Int) + 2 := by have := HMM.out; have := HM.out; exact wrap64_id (by omega) (by omega)
   have mn : min (2 : Int) ((M - i : Nat) : Int) = 2 := by omega
   obtain ⟨fn, tmps, assign, body, hy, hR⟩ := HY.out j wr.drew (HJ.out _ wr _ none HJs.out (grown_drew _) (fun r e => by cases e)) hlt
   have he : chunkV ad j = .slice (some (ad.add (i * 3))) 2 2 := by rw [HI.out.1]; rfl
   rw [he] at hy
   have hR2 := hR.mono (fun e W' h => (show ∃ b : Bool, e = .returned (.bool b) ∧ Aside0 ((b = true ∧ J (List.range (j + 1)) W' ∧ KeepS S wr.drew W') ∨ (b = false ∧ Jx (List.range (j + 1)) W')) from
    h.elim (fun h => ⟨true, h.1, ⟨.inl ⟨rfl, h.2⟩⟩⟩) (fun h => ⟨false, h.1, ⟨.inr ⟨rfl, h.2⟩⟩⟩)))
   clear hR he
   gi_wp2
   refine region_invIn (fun l a W => a = ({ tmps := #[.func (.yield lp) #[] #[], .pointer (some ⟨sb, 0, none⟩), .pointer (some ⟨nb, 0, none⟩), undef, .int .i64 (i : Int), sel (l 6) (.int .i64 2) (u5), .int .i64 (i : Int), .slice (some ad) M c, .int .i64 (M : Int), .bool true, u10, u11, u12, sel (l 0) (.int .i64 2) (u13), sel (l 1) (.slice (some ad) M c) (u14), sel (l 2) (.int .i64 (i : Int)) (u15), sel (l 3) (.slice (some (ad.add (i * 3))) (M - i) (c - i)) (u16), sel (l 4) (.int .i64 ((M - i : Nat) : Int)) (u17), sel (l 5) (.int .i64 2) (u18), u19, u20, u21, u22, u23, u24, u25, u26, u27, u28, u29, u30], defers := [] } : Act) ∧ (W = wr.drew)) 7 rfl rfl (by kernel_rfl) ?h0 ?hend ?hstep
   case h0 => exact ⟨rfl, rfl⟩
   case hstep =>
    refine rg_cons (rg_cons (rg_cons (rg_cons (rg_cons (rg_cons (rg_cons (rg_nil) ?s0) ?s1) ?s2) ?s3) ?s4) ?s5) ?s6
    case s0 =>
     refine rgi_step rfl ?_
     rintro l a W ⟨rfl, rfl⟩ hl hd
     clear hd
     refine rgi_val (v := .int .i64 2) (w' := wr.drew) (fun _ => trivial) rfl (fun _ h => by cases h) (by go_simp) ?_
     refine ⟨?_, ?_⟩
     ·
      simp only [Act.put, List.setIfInBounds_toArray, List.set_cons_zero, List.set_cons_succ]; rfl
     ·
      rfl
    case s1 =>
     refine rgi_step rfl ?_
     rintro l a W ⟨rfl, rfl⟩ hl hd
     clear hd
     refine rgi_val (v := .slice (some ad) M c) (w' := wr.drew) (fun _ => trivial) rfl (fun _ h => by cases h) (by go_simp) ?_
     refine ⟨?_, ?_⟩
     ·
      simp only [Act.put, List.setIfInBounds_toArray, List.set_cons_zero, List.set_cons_succ]; rfl
     ·
      rfl
    case s2 =>
     refine rgi_step rfl ?_
     rintro l a W ⟨rfl, rfl⟩ hl hd
     clear hd
     refine rgi_val (v := .int .i64 (i : Int)) (w' := wr.drew) (fun _ => trivial) rfl (fun _ h => by cases h) (by go_simp) ?_
     refine ⟨?_, ?_⟩
     ·
      simp only [Act.put, List.setIfInBounds_toArray, List.set_cons_zero, List.set_cons_succ]; rfl
     ·
      rfl
    case s3 =>
     refine rgi_step rfl ?_
     rintro l a W ⟨rfl, rfl⟩ hl hd
     have d1 := hd 1 (by decide)
     have d2 := hd 2 (by decide)
     clear hd
     refine rgi_val (v := .slice (some (ad.add (i * 3))) (M - i) (c - i)) (w' := wr.drew) (fun _ => trivial) rfl (fun _ h => by cases h) (by go_simp) ?_
     refine ⟨?_, ?_⟩
     ·
      simp only [Act.put, List.setIfInBounds_toArray, List.set_cons_zero, List.set_cons_succ]; rfl
     ·
      rfl
    case s4 =>
     refine rgi_step rfl ?_
     rintro l a W ⟨rfl, rfl⟩ hl hd
     have d3 := hd 3 (by decide)
     clear hd
     refine rgi_val (v := .int .i64 ((M - i : Nat) : Int)) (w' := wr.drew) (fun _ => trivial) rfl (fun _ h => by cases h) (by go_simp) ?_
     refine ⟨?_, ?_⟩
     ·
      simp only [Act.put, List.setIfInBounds_toArray, List.set_cons_zero, List.set_cons_succ]; rfl
     ·
      rfl
    case s5 =>
     refine rgi_step rfl ?_
     rintro l a W ⟨rfl, rfl⟩ hl hd
     have d0 := hd 0 (by decide)
     have d4 := hd 4 (by decide)
     clear hd
     refine rgi_val (v := .int .i64 2) (w' := wr.drew) (fun _ => trivial) rfl (fun _ h => by cases h) (by go_simp) ?_
     refine ⟨?_, ?_⟩
     ·
      simp only [Act.put, List.setIfInBounds_toArray, List.set_cons_zero, List.set_cons_succ]; rfl
     ·
      rfl
    case s6 =>
     refine rgi_step rfl ?_
     rintro l a W ⟨rfl, rfl⟩ hl hd
     have d5 := hd 5 (by decide)
     clear hd
     refine rgi_val (v := .int .i64 2) (w' := wr.drew) (fun _ => trivial) rfl (fun _ h => by cases h) (by go_simp) ?_
     refine ⟨?_, ?_⟩
     ·
      simp only [Act.put, List.setIfInBounds_toArray, List.set_cons_zero, List.set_cons_succ]; rfl
     ·
      rfl
   case hend =>
    rintro l a W ⟨rfl, rfl⟩ hall
    have e0 := hall 0 (by decide)
    have e1 := hall 1 (by decide)
    have e2 := hall 2 (by decide)
    have e3 := hall 3 (by decide)
    have e4 := hall 4 (by decide)
    have e5 := hall 5 (by decide)
    have e6 := hall 6 (by decide)
    clear hall
    simp only [e0, e1, e2, e3, e4, e5, e6, sel_true]
    clear e0 e1 e2 e3 e4 e5 e6
    gi_wp2_with fail
    refine hR2.mono ?_
    clear hR2 hy x0 x1 s1 s2 mn
    rintro e W3 ⟨b, rfl, HE⟩
    cases b with
    | true =>
     obtain ⟨-, hJ2, hK2⟩ | ⟨h, -⟩ := HE.out
     case inr => exact absurd h (by decide)
     have hK3 : KeepS S W W3 := HK.out.trans hK2
     have HK3 := aM' hK3
     have HJ2 := aM' hJ2
     have x1 : W3.cell? ⟨nb, 0, none⟩ = some (.int .i64 2) := blk_cell ((hK3 nb hSn).trans HP.out) 0
     clear hK2 hK3 hJ2 HE
     gi_wp2
     rw [wi]
     refine ⟨⟨i + 2, j + 1, by simp, ⟨by have := HI.out; omega, hlt⟩, HJ2, HK3⟩, ?_⟩
     show M - ((i : Int) + 2).toNat < M - (i : Int).toNat
     omega
    | false =>
     obtain ⟨h, -⟩ | ⟨-, hJ2⟩ := HE.out
     case inl => exact absurd h (by decide)
     have HJ2 := aM' hJ2
     clear hJ2 HE
     gi_wp2
     refine bodyPost_ret (results_none rfl _ _ _) rfl ?_
     exact ⟨⟨_, rfl⟩, .inr ⟨_, hlt, HJ2.out⟩⟩
  ·
   have b1 : decide (i < M) = false := decide_eq_false (by have := HI.out; have := HMM.out; omega)
   obtain rfl : j = m := by have := HI.out; omega
   gi_wp2
   go_end0
   exact ⟨⟨_, rfl⟩, .inl HJs.out⟩
end Go.Proofs.YtfcodmdckcihmaaDoor.P
namespace Go.Proofs.YtfcodmdckcihmaaDoor.P
open Go.RowKit Go.Proofs.YtfcodmdckcihmaaDoorW.PrintWords Go.Proofs.YtfcodmdckcihmaaDoorW.PrintLast Go.Proofs.YtfcodmdckcihmaaDoorW.PrintMore
set_option linter.unusedVariables false
set_option linter.unusedSimpArgs false
set_option linter.unnecessarySimpa false
attribute [local go_sem] Oper.semAt_some sel_true
theorem nodeInfo : (Tryd.prog.info? 46).map (fun i => (i.zero, i.size, i.bytes)) = some (some (.agg #[(.string ⟨#[]⟩), (.int .u64 0), (.int .u64 0)]), 3, 32) := by kernel_rfl
def cellsN : List SNode → List Value
  | [] => []
  | x :: l => .string x.f0 :: .int .u64 x.f1.f0 :: .int .u64 x.f1.f1 :: cellsN l
theorem cellsN_len : ∀ l, (cellsN l).length = l.length * 3
  | [] => rfl
  | x :: l => by simp [cellsN, cellsN_len l]; omega
theorem cellsN_append : ∀ a b, cellsN (a ++ b) = cellsN a ++ cellsN b
  | [], _ => rfl
  | x :: a, b => by rw [List.cons_append, cellsN, cellsN_append a b]; rfl
theorem cellsN_get : ∀ (l : List SNode) (j i : Nat) (p : SNode), l[j]? = some p → i < 3 → (cellsN l)[j * 3 + i]? = [Value.string p.f0, .int .u64 p.f1.f0, .int .u64 p.f1.f1][i]?
  | [], j, i, p, h, _ => by simp at h
  | x :: l, 0, i, p, h, hi => by
    obtain rfl := Option.some.inj h
    rw [cellsN, Nat.zero_mul, Nat.zero_add]
    match i, hi with
    | 0, _ => rfl
    | 1, _ => rfl
    | 2, _ => rfl
  | x :: l, j + 1, i, p, h, hi => by
    have h' : l[j]? = some p := by simpa using h
    rw [cellsN, show (j + 1) * 3 + i = (j * 3 + i) + 3 by omega]
    simp only [List.getElem?_cons_succ]
    exact cellsN_get l j i p h' hi
theorem addr_at (g n : Nat) : (⟨g, 0, none⟩ : Addr).add n = ⟨g, n, none⟩ := by unfold Addr.add; split <;> simp_all
theorem ownNodes_C {w : World} {base g n cap : Nat} {xs : List SNode} (h : w.ownsRow base 46 3 (.slice (some ⟨g, 0, none⟩) n cap) n (cellsN xs)) : xs.length = n ∧ n ≤ cap ∧ Kd.C kNode w (some ⟨g, 0, none⟩) n xs := by
  obtain ⟨hlen, h⟩ := h
  rw [cellsN_len] at hlen
  have hl : xs.length = n := by omega
  rcases h with ⟨h, _⟩ | ⟨g', cap', cur, hv, hb, hg, hcap, hmax, hsz, htk⟩
  · cases h
  · simp only [Value.slice.injEq, Option.some.injEq, Addr.mk.injEq] at hv
    obtain ⟨⟨rfl, -⟩, -, rfl⟩ := hv
    refine ⟨hl, hcap, hl, by unfold maxLen at hmax; omega, fun h0 => ⟨_, rfl, fun j p hj => ?_⟩⟩
    refine ⟨_, rfl, kNode_mk w p, fun i u hu => ?_⟩
    have hi : i < 3 := by
      rcases Nat.lt_or_ge i 3 with h | h
      · exact h
      · simp [h] at hu
    have hjn : j < xs.length := (List.getElem?_eq_some_iff.1 hj).1
    have e : kNode.sz = 3 := rfl
    rw [e, addr_at, blk_cell hg]
    have h1 := cellsN_get xs j i p hj hi
    rw [← htk, List.getElem?_take, if_pos (by omega)] at h1
    rw [hu] at h1
    simpa using h1
theorem two_at {W : World} {ad : Addr} {l : List SNode} (h : Kd.C kNode W (some ad) l.length l) (j : Nat) (hj : 2 * j + 1 < l.length) :
    ((W.cell? (ad.add (2 * j * 3)) = some (.string (l[2 * j]'(by omega)).f0) ∧ W.cell? ⟨(ad.add (2 * j * 3)).block, (ad.add (2 * j * 3)).off + 1, none⟩ = some (.int .u64 (l[2 * j]'(by omega)).f1.f0) ∧ W.cell? ⟨(ad.add (2 * j * 3)).block, (ad.add (2 * j * 3)).off + 2, none⟩ = some (.int .u64 (l[2 * j]'(by omega)).f1.f1)) ∧
     (W.cell? ((ad.add (2 * j * 3)).add 3) = some (.string l[2 * j + 1].f0) ∧ W.cell? ⟨((ad.add (2 * j * 3)).add 3).block, ((ad.add (2 * j * 3)).add 3).off + 1, none⟩ = some (.int .u64 l[2 * j + 1].f1.f0) ∧ W.cell? ⟨((ad.add (2 * j * 3)).add 3).block, ((ad.add (2 * j * 3)).add 3).off + 2, none⟩ = some (.int .u64 l[2 * j + 1].f1.f1))) := by
  obtain ⟨a1, e1, p0, p1, p2⟩ := at_TNode h ((2 * j : Nat) : Int) (by omega) (by omega)
  obtain ⟨a2, e2, q0, q1, q2⟩ := at_TNode h ((2 * j + 1 : Nat) : Int) (by omega) (by omega)
  cases e1; cases e2
  rw [rdNode_nat l (2 * j) (by omega), Int.toNat_natCast] at p0 p1 p2
  rw [rdNode_nat l (2 * j + 1) hj, Int.toNat_natCast] at q0 q1 q2
  have e3 : (ad.add (2 * j * 3)).add 3 = ad.add ((2 * j + 1) * 3) := by rw [Addr.add_add]; congr 1; omega
  rw [e3]
  exact ⟨⟨p0, p1, p2⟩, q0, q1, q2⟩
theorem two_at' {W : World} {ad : Addr} {l : List SNode} (h : Kd.C kNode W (some ad) l.length l) (j : Nat) (hj : 2 * j + 1 < l.length) (a b : SNode) (ha : a = l.getD (2 * j) zeroN) (hb : b = l.getD (2 * j + 1) zeroN) (ap : Addr) (hap : ap = ad.add (2 * j * 3)) :
    ((W.cell? ap = some (.string a.f0) ∧ W.cell? ⟨ap.block, ap.off + 1, none⟩ = some (.int .u64 a.f1.f0) ∧ W.cell? ⟨ap.block, ap.off + 2, none⟩ = some (.int .u64 a.f1.f1)) ∧
     (W.cell? ⟨ap.block, ap.off + 3, none⟩ = some (.string b.f0) ∧ W.cell? ⟨ap.block, ap.off + 3 + 1, none⟩ = some (.int .u64 b.f1.f0) ∧ W.cell? ⟨ap.block, ap.off + 3 + 2, none⟩ = some (.int .u64 b.f1.f1))) := by
  have h1 : l.getD (2 * j) zeroN = l[2 * j]'(by omega) := by simp [List.getD_eq_getElem?_getD, show 2 * j < l.length by omega]
  have h2 : l.getD (2 * j + 1) zeroN = l[2 * j + 1] := by simp [List.getD_eq_getElem?_getD, hj]
  subst ha hb hap
  rw [h1, h2]
  obtain ⟨p, q0, q1, q2⟩ := two_at h j hj
  have e3 : (ad.add (2 * j * 3)).add 3 = ⟨(ad.add (2 * j * 3)).block, (ad.add (2 * j * 3)).off + 3, none⟩ := rfl
  rw [e3] at q0 q1 q2
  exact ⟨p, q0, q1, q2⟩
structure Pr4 (W0 W : World) (x : SNode) (l : Nat → Bool) (γ : Nat) : Prop where
  hB : Below W0.heap.size W0 W
  hg : l 11 = true → W0.heap.size ≤ γ ∧ W.heap[γ]? = some (.cells (if l 12 = true then nodeA x else #[.string ⟨#[]⟩, .int .u64 0, .int .u64 0]) 46 (0, 0))
  ho : l 12 = true → l 11 = true
theorem Pr4.other {W0 W W' : World} {x : SNode} {l : Nat → Bool} {γ : Nat} (h : Pr4 W0 W x l γ) (i : Nat) (hi : i ≠ 11) (hi2 : i ≠ 12) (hb : Below W.heap.size W W') : Pr4 W0 W' x (upd l i) γ := by
  have e1 : upd l i 11 = l 11 := by unfold upd; rw [if_neg (fun e => hi e.symm)]
  have e2 : upd l i 12 = l 12 := by unfold upd; rw [if_neg (fun e => hi2 e.symm)]
  refine ⟨h.hB.trans (hb.mono h.hB.size), ?_, ?_⟩
  · rw [e1, e2]; exact fun hl => ⟨(h.hg hl).1, blk_below (h.hg hl).2 hb⟩
  · rw [e1, e2]; exact h.ho
theorem Pr4.alloc {W0 W : World} {x : SNode} {l : Nat → Bool} {γ : Nat} (h : Pr4 W0 W x l γ) (hl : l 11 = false) : Pr4 W0 (W.alloc (.cells #[.string ⟨#[]⟩, .int .u64 0, .int .u64 0] 46 (0, 0))) x (upd l 11) W.heap.size := by
  have h12 : l 12 = false := by
    cases hx : l 12 with
    | false => rfl
    | true => rw [h.ho hx] at hl; cases hl
  have e1 : upd l 11 11 = true := rfl
  have e2 : upd l 11 12 = l 12 := rfl
  refine ⟨below_alloc h.hB _, ?_, ?_⟩
  · rw [e1, e2, h12]; exact fun _ => ⟨h.hB.size, blk_new W _⟩
  · rw [e1]; exact fun _ => rfl
theorem Pr4.store {W0 W : World} {x : SNode} {l : Nat → Bool} {γ : Nat} (h : Pr4 W0 W x l γ) (ha : l 11 = true) (hl : l 12 = false) : Pr4 W0 (((W.setCell ⟨γ, 0, none⟩ (.string x.f0)).setCell ⟨γ, 1, none⟩ (.int .u64 x.f1.f0)).setCell ⟨γ, 2, none⟩ (.int .u64 x.f1.f1)) x (upd l 12) γ := by
  have e1 : upd l 12 11 = l 11 := rfl
  have e2 : upd l 12 12 = true := rfl
  obtain ⟨h1, h2⟩ := h.hg ha
  rw [hl, if_neg (by decide)] at h2
  refine ⟨below_set (below_set (below_set h.hB h1) h1) h1, ?_, ?_⟩
  · rw [e1, e2, if_pos rfl]; exact fun _ => ⟨h1, put3 (z := ⟨⟨#[]⟩, ⟨0, 0⟩⟩) h2 x⟩
  · rw [e1]; exact fun _ => ha
abbrev closV (B : Nat) : Value := .func (.func 76) #[] #[.pointer (some ⟨B, 0, none⟩)]
structure PrS (w : World) (B m b3 b4 b5 bx b6 : Nat) (done : List SNode) (r4 : Value) (r5 : Int) (W : World) : Prop where
  n3 : b3 = w.heap.size
  n4 : b4 = w.heap.size + 1
  n5 : b5 = w.heap.size + 2
  nx : bx = w.heap.size + 3
  n6 : b6 = w.heap.size + 4
  h3 : W.heap[b3]? = some (.cells #[closV B] 133 (0, 0))
  h4 : W.heap[b4]? = some (.cells #[r4] 43 (0, 0))
  h5 : W.heap[b5]? = some (.cells #[.int .i64 r5] 26 (0, 0))
  own : W.ownsRow w.heap.size 46 3 (.slice (some ⟨bx, 0, none⟩) done.length m) done.length (cellsN done)
  h6 : W.heap[b6]? = some (.cells #[.slice (some ⟨bx, 0, none⟩) done.length m] 43 (0, 0))
  hB : Below w.heap.size w W
theorem PrS.lt {w W : World} {B m b3 b4 b5 bx b6 : Nat} {done : List SNode} {r4 : Value} {r5 : Int} (h : PrS w B m b3 b4 b5 bx b6 done r4 r5 W) : w.heap.size + 4 < W.heap.size := by have := blk_lt h.h6; rw [h.n6] at this; exact this
theorem own_keep {w w' : World} {base n m g : Nat} {xs : List Value} {e : TypeId} {size : Nat} (h : w.ownsRow base e size (.slice (some ⟨g, 0, none⟩) n m) n xs) (hk : w'.heap[g]? = w.heap[g]?) : w'.ownsRow base e size (.slice (some ⟨g, 0, none⟩) n m) n xs := by
  obtain ⟨hlen, h⟩ := h
  refine ⟨hlen, ?_⟩
  rcases h with ⟨h, _⟩ | ⟨g', cap', cur, hv, hb, hg, hr⟩
  · cases h
  · have e : g' = g := by simp only [Value.slice.injEq, Option.some.injEq, Addr.mk.injEq] at hv; exact hv.1.1.symm
    subst e
    exact .inr ⟨_, cap', cur, hv, hb, hk.trans hg, hr⟩
theorem PrS.keep {w W W' : World} {B m b3 b4 b5 bx b6 : Nat} {done : List SNode} {r4 : Value} {r5 : Int} (h : PrS w B m b3 b4 b5 bx b6 done r4 r5 W) (hk : ∀ k, k ≤ w.heap.size + 4 → W'.heap[k]? = W.heap[k]?) (hB : Below w.heap.size w W') : PrS w B m b3 b4 b5 bx b6 done r4 r5 W' :=
  ⟨h.n3, h.n4, h.n5, h.nx, h.n6, (hk _ (by have := h.n3; omega)).trans h.h3, (hk _ (by have := h.n4; omega)).trans h.h4, (hk _ (by have := h.n5; omega)).trans h.h5, own_keep h.own (hk _ (by have := h.nx; omega)), (hk _ (by have := h.n6; omega)).trans h.h6, hB⟩
theorem PrS.below {w W W' : World} {B m b3 b4 b5 bx b6 : Nat} {done : List SNode} {r4 : Value} {r5 : Int} (h : PrS w B m b3 b4 b5 bx b6 done r4 r5 W) (hb : Below W.heap.size W W') : PrS w B m b3 b4 b5 bx b6 done r4 r5 W' :=
  h.keep (fun k h2 => hb.block k (by have := h.lt; omega)) (h.hB.trans (hb.mono h.hB.size))
theorem PrS.grown {w X Y : World} {B m b3 b4 b5 bx b6 C : Nat} {done : List SNode} {r4 : Value} {r5 : Int} {row : Option Nat} (h : PrS w B m b3 b4 b5 bx b6 done r4 r5 X) (hg : X.grownBy Y row) (hlt : w.heap.size + 4 < C) (hr : ∀ r, row = some r → C ≤ r) : PrS w B m b3 b4 b5 bx b6 done r4 r5 Y := by
  have hl := h.lt
  have hk : ∀ k, k ≤ w.heap.size + 4 → Y.heap[k]? = X.heap[k]? := fun k hk => hg.block k (by omega) (fun e => by have := hr k e.symm; omega)
  exact h.keep hk ⟨hg.os.trans h.hB.os, hg.tape.trans h.hB.tape, hg.output.trans h.hB.output, Nat.le_trans h.hB.size hg.size, fun i hi => (hk i (by omega)).trans (h.hB.block i hi)⟩
theorem PrS.more {w W W' : World} {B m b3 b4 b5 bx b6 : Nat} {done : List SNode} {r4 : Value} {r5 : Int} (x : SNode) (h : PrS w B m b3 b4 b5 bx b6 done r4 r5 W) (hg : W.grownBy W' (some bx)) (hown : W'.ownsRow w.heap.size 46 3 (.slice (some ⟨bx, 0, none⟩) (done.length + 1) m) (done.length + 1) (cellsN done ++ [.string x.f0, .int .u64 x.f1.f0, .int .u64 x.f1.f1])) :
    PrS w B m b3 b4 b5 bx b6 (done ++ [x]) r4 r5 (W'.setCell ⟨b6, 0, none⟩ (.slice (some ⟨bx, 0, none⟩) (done.length + 1) m)) := by
  have hl := h.lt
  have n3 := h.n3; have n4 := h.n4; have n5 := h.n5; have nx := h.nx; have n6 := h.n6
  have hk : ∀ k, k ≤ w.heap.size + 4 → k ≠ bx → W'.heap[k]? = W.heap[k]? := fun k hk hn => hg.block k (by omega) (fun e => hn (Option.some.inj e))
  have hlen : (done ++ [x]).length = done.length + 1 := by simp
  refine ⟨n3, n4, n5, nx, n6, blk_far ((hk _ (by omega) (by omega)).trans h.h3) (by (try dsimp only); omega) _, blk_far ((hk _ (by omega) (by omega)).trans h.h4) (by (try dsimp only); omega) _, blk_far ((hk _ (by omega) (by omega)).trans h.h5) (by (try dsimp only); omega) _, ?_, ?_, ?_⟩
  · rw [hlen, cellsN_append]
    exact own_keep hown (Below.heap_setCell _ _ _ _ (by (try dsimp only); omega))
  · rw [hlen]
    exact blk_put ((hk _ (by omega) (by omega)).trans h.h6) 0 _ rfl
  · have hB : Below w.heap.size w W' := ⟨hg.os.trans h.hB.os, hg.tape.trans h.hB.tape, hg.output.trans h.hB.output, Nat.le_trans h.hB.size hg.size, fun i hi => (hk i (by omega) (by omega)).trans (h.hB.block i hi)⟩
    exact below_set hB (by (try dsimp only); omega)
theorem PrS.put {w W : World} {B m b3 b4 b5 bx b6 : Nat} {done : List SNode} {r4 : Value} {r5 : Int} (h : PrS w B m b3 b4 b5 bx b6 done r4 r5 W) (v : Value) (e : Int) : PrS w B m b3 b4 b5 bx b6 done v e ((W.setCell ⟨b4, 0, none⟩ v).setCell ⟨b5, 0, none⟩ (.int .i64 e)) := by
  have n3 := h.n3; have n4 := h.n4; have n5 := h.n5; have nx := h.nx; have n6 := h.n6
  exact ⟨n3, n4, n5, nx, n6, blk_far (blk_far h.h3 (by (try dsimp only); omega) _) (by (try dsimp only); omega) _, blk_far (blk_put h.h4 0 _ rfl) (by (try dsimp only); omega) _, blk_put (blk_far h.h5 (by (try dsimp only); omega) _) 0 _ rfl,
    own_keep (own_keep h.own (Below.heap_setCell _ _ _ _ (by (try dsimp only); omega))) (Below.heap_setCell _ _ _ _ (by (try dsimp only); omega)), blk_far (blk_far h.h6 (by (try dsimp only); omega) _) (by (try dsimp only); omega) _, below_set (below_set h.hB (by (try dsimp only); omega)) (by (try dsimp only); omega)⟩
end Go.Proofs.YtfcodmdckcihmaaDoor.P
namespace Go.Proofs.YtfcodmdckcihmaaDoor.P
open Go.RowKit Go.Proofs.YtfcodmdckcihmaaDoorW.PrintWords Go.Proofs.YtfcodmdckcihmaaDoorW.PrintLast Go.Proofs.YtfcodmdckcihmaaDoorW.PrintMore
set_option linter.unusedVariables false
set_option linter.unusedSimpArgs false
set_option linter.unnecessarySimpa false
attribute [local go_sem] sel_true
theorem pow_small (h : Nat) (hh : h ≤ 10) : wrap64 ((2 : Int) ^ h) = ((2 ^ h : Nat) : Int) := by
 have h1 : 2 ^ h ≤ 2 ^ 10 := Nat.pow_le_pow_right (by decide) hh
 have e : ((2 ^ h : Nat) : Int) = (2 : Int) ^ h := by simp
 rw [← e]
 revert h1
 generalize 2 ^ h = p
 intro h1
 exact wrap64_id (by omega) (by omega)
theorem len_all : ∀ n ∈ List.range 1025, n ≠ 0 → Lib.bitLen n = (Lib.bitLen n - 1) + 1 ∧ Lib.bitLen n - 1 ≤ 10 ∧ (n == 2 ^ (Lib.bitLen n - 1)) = isPow n := by decide +kernel
set_option maxRecDepth 100000 in
theorem height.calls (n : Nat) (w : World) (hn : n ≤ 1024) : Calls Tryd.prog 55 #[.int .i64 (n : Int)] w fun e w' => (∃ h, e = .returned (.tuple #[.int .i64 h, .bool (isPow n)])) ∧ w = w' := by
 have hw : IntKind.u64.wrap (n : Int) = (n : Int) := wrapu64_id (by omega) (by omega)
 by_cases h0 : n = 0
 ·
  subst h0
  go_enter Tryd.func55, Tryd.ntmps55
  go_wp2_with fail
  refine (Tryd.bits_Len 0 w (by decide) (by decide)).mono ?_
  rintro e w1 ⟨rfl, rfl⟩
  go_wp2
  go_ret2
  exact ⟨⟨_, rfl⟩, rfl⟩
 ·
  obtain ⟨e1, e2, e3⟩ := len_all n (List.mem_range.2 (by omega)) h0
  have q := Tryd.bits_Len (n : Int) w (by omega) (by omega)
  rw [Int.toNat_natCast, e1] at q
  generalize Lib.bitLen n - 1 = h at e2 e3 q
  clear e1
  have w1 : wrap64 (((h + 1 : Nat) : Int) - 1) = (h : Int) := by rw [wrap64_id (by omega) (by omega)]; omega
  have b1 : decide ((0 : Int) < (n : Int)) = true := decide_eq_true (by omega)
  have b2 : decide (0 < n) = true := decide_eq_true (by omega)
  have b4 : decide ((h : Int) ≤ 10) = true := decide_eq_true (by omega)
  have b5 : decide (h ≤ 10) = true := decide_eq_true (by omega)
  have b3 : ((n : Int) == ((2 ^ h : Nat) : Int)) = isPow n := by
   rw [← e3, Bool.eq_iff_iff, beq_iff_eq, beq_iff_eq]
   exact Int.ofNat_inj
  rw [← pow_small h e2] at b3
  have Q := aM' q
  clear q e3
  cases hp : isPow n with
  | true =>
   rw [hp] at b3
   go_enter Tryd.func55, Tryd.ntmps55
   go_wp2_with fail
   refine Q.out.mono ?_
   rintro e w1 ⟨rfl, rfl⟩
   go_wp2
   go_ret2
   exact ⟨⟨_, rfl⟩, rfl⟩
  | false =>
   rw [hp] at b3
   go_enter Tryd.func55, Tryd.ntmps55
   go_wp2_with fail
   refine Q.out.mono ?_
   rintro e w1 ⟨rfl, rfl⟩
   go_wp2
   go_ret2
   exact ⟨⟨_, rfl⟩, rfl⟩
structure OkL (x : SLeaf) : Prop where
 id : x.f1.size ≤ 1000000
 sa : x.f2.size ≤ 1000000
 ub : OkU x.f3
def newI (wd : Int) (l : List SLeaf) : Int :=
 if wd < 1 ∨ 32 < wd then 70 else if isPow l.length = false then 120 else if l.all mayLeafI = false then 130 else if totL (l.map (leafNodeI wd)) < 340282366920938463463374607431768211456 then 0 else 10
structure NwB (w : World) (wd : Int) (W : World) : Prop where
 h2 : W.heap[w.heap.size]? = some (.cells #[.int .i64 wd] 3 (0, 0))
 h4 : W.heap[w.heap.size + 1]? = some (.cells #[.pointer none] 25 (0, 0))
 h5 : W.heap[w.heap.size + 1 + 1]? = some (.cells #[.int .i64 0] 26 (0, 0))
 hB : Below w.heap.size w W
theorem NwB.lt {w W : World} {wd : Int} (h : NwB w wd W) : w.heap.size + 1 + 1 < W.heap.size := blk_lt h.h5
theorem NwB.keep {w W W' : World} {wd : Int} (h : NwB w wd W) (hk : ∀ k, k < w.heap.size + 3 → W'.heap[k]? = W.heap[k]?) (hB : Below w.heap.size w W') : NwB w wd W' := ⟨(hk _ (by omega)).trans h.h2, (hk _ (by omega)).trans h.h4, (hk _ (by omega)).trans h.h5, hB⟩
theorem NwB.below {w W W' : World} {wd : Int} (h : NwB w wd W) (hb : Below W.heap.size W W') : NwB w wd W' := h.keep (fun k hk => hb.block k (by have := h.lt; omega)) (h.hB.trans (hb.mono h.hB.size))
theorem NwB.grown {w X Y : World} {wd : Int} {row : Option Nat} (h : NwB w wd X) (hg : X.grownBy Y row) (hr : ∀ r, row = some r → w.heap.size + 3 ≤ r) : NwB w wd Y := by
 have hl := h.lt
 have hk : ∀ k, k < w.heap.size + 3 → Y.heap[k]? = X.heap[k]? := fun k hk => hg.block k (by omega) (fun e => by have := hr k e.symm; omega)
 exact h.keep hk ⟨hg.os.trans h.hB.os, hg.tape.trans h.hB.tape, hg.output.trans h.hB.output, Nat.le_trans h.hB.size hg.size, fun i hi => (hk i (by omega)).trans (h.hB.block i hi)⟩
theorem NwB.start (w : World) (wd : Int) : NwB w wd (((w.alloc (.cells #[.int .i64 wd] 3)).alloc (.cells #[.pointer none] 25)).alloc (.cells #[.int .i64 0] 26)) := by
 refine ⟨blk_alloc (blk_alloc (blk_new w _) _) _, blk_alloc ?_ _, ?_, below_alloc (below_alloc (below_alloc (Below.refl _ _) _) _) _⟩
 ·
  have := blk_new (w.alloc (.cells #[.int .i64 wd] 3)) (.cells #[.pointer none] 25); rwa [World.size_alloc] at this
 ·
  have := blk_new ((w.alloc (.cells #[.int .i64 wd] 3)).alloc (.cells #[.pointer none] 25)) (.cells #[.int .i64 0] 26); rwa [World.size_alloc, World.size_alloc] at this
theorem new_results (tmps : Array Value) (W : World) (g4 g5 : Nat) (v e : Value) (h4 : tmps.getD 4 undef = .pointer (some ⟨g4, 0, none⟩)) (h5 : tmps.getD 5 undef = .pointer (some ⟨g5, 0, none⟩)) (hg4 : W.heap[g4]? = some (.cells #[v] 25 (0, 0))) (hg5 : W.heap[g5]? = some (.cells #[e] 26 (0, 0))) :
  (results Tryd.f14 tmps).run Tryd.prog W = .ok (.tuple #[v, e]) W := by
 have h4' : tmps[4]?.getD undef = .pointer (some ⟨g4, 0, none⟩) := by simpa using h4
 have h5' : tmps[5]?.getD undef = .pointer (some ⟨g5, 0, none⟩) := by simpa using h5
 have hr : Tryd.f14.results = #[.cell 4 25, .cell 5 26] := rfl
 have hc : W.cell? ⟨g5, 0, none⟩ = some e := blk_cell hg5 0
 have hd : W.cell? ⟨g4, 0, none⟩ = some v := blk_cell hg4 0
 have hu := Tryd.underlying26
 have hu2 := Tryd.underlying25
 have h1 : (loadVar 25 ⟨g4, 0, none⟩).run Tryd.prog W = .ok v W := by go_simp
 have h2 : (loadVar 26 ⟨g5, 0, none⟩).run Tryd.prog W = .ok e W := by go_simp
 simp [results, hr, h4', h5', asAddr, h1, h2]
structure ButD (ds : List Nat) (W W' : World) : Prop where
 os : W'.os = W.os
 tape : W'.tape = W.tape
 output : W'.output = W.output
 size : W'.heap.size = W.heap.size
 heap : ∀ k, k ∉ ds → W'.heap[k]? = W.heap[k]?
abbrev markD (D : Nat) : Deferred := { target := .collected D, args := #[] }
theorem leavesD {fn : Func} {tmps : Array Value} {R : Ending → World → Prop} (v : Value) : ∀ (ds : List Nat) (W : World), ds.Nodup → (∀ D ∈ ds, W.heap[D]? = some (.deferred (some []))) → (∀ W', ButD ds W W' → (results fn tmps).run Tryd.prog W' = .ok v W' ∧ R (.returned v) W') → LeavesInM Fence.wide 3 Tryd.prog fn tmps R (ds.map markD) .returning W
 | [], W, _, _, h => by
  obtain ⟨h1, h2⟩ := h W ⟨rfl, rfl, rfl, rfl, fun _ _ => rfl⟩
  exact ⟨_, h1, h2⟩
 | D :: ds, W, hn, hd, h => by
  have hD := hd D (List.mem_cons_self ..)
  obtain ⟨h1, h2⟩ := List.nodup_cons.1 hn
  refine ⟨by simp, .inl ⟨_, _, rfl, run_takeDeferred hD, ?_⟩⟩
  refine leavesD v ds _ h2 (fun D' hD' => (World.putObj_heap_other (by intro e; subst e; exact h1 hD')).trans (hd D' (List.mem_cons_of_mem _ hD'))) (fun W' hW' => h W' ⟨hW'.os, hW'.tape, hW'.output, hW'.size.trans (by simp), fun k hk => ?_⟩)
  rw [hW'.heap k (fun e => hk (List.mem_cons_of_mem _ e))]
  exact World.putObj_heap_other (by intro e; subst e; exact hk (List.mem_cons_self ..))
theorem retD {fn : Func} {tmps : Array Value} {R : Ending → World → Prop} {ds : List Nat} {W : World} (v : Value) (hn : ds.Nodup) (hd : ∀ D ∈ ds, W.heap[D]? = some (.deferred (some []))) (h : ∀ W', ButD ds W W' → (results fn tmps).run Tryd.prog W' = .ok v W' ∧ R (.returned v) W') :
  bodyPostM Fence.wide 3 Tryd.prog fn R .ret { tmps := tmps, defers := ds.map markD } W := leavesD v ds W hn hd h
theorem ret0 {fn : Func} {tmps : Array Value} {R : Ending → World → Prop} {W : World} (v : Value) (h : (results fn tmps).run Tryd.prog W = .ok v W) (hR : R (.returned v) W) :
  bodyPostM Fence.wide 3 Tryd.prog fn R .ret { tmps := tmps, defers := [] } W := ⟨_, h, hR⟩
theorem NwB.put {w W : World} {wd : Int} (h : NwB w wd W) (v e : Value) : ((W.setCell ⟨w.heap.size + 1, 0, none⟩ v).setCell ⟨w.heap.size + 1 + 1, 0, none⟩ e).heap[w.heap.size + 1]? = some (.cells #[v] 25 (0, 0)) ∧
  ((W.setCell ⟨w.heap.size + 1, 0, none⟩ v).setCell ⟨w.heap.size + 1 + 1, 0, none⟩ e).heap[w.heap.size + 1 + 1]? = some (.cells #[e] 26 (0, 0)) ∧ Below w.heap.size w ((W.setCell ⟨w.heap.size + 1, 0, none⟩ v).setCell ⟨w.heap.size + 1 + 1, 0, none⟩ e) :=
 ⟨blk_far (blk_put h.h4 0 v rfl) (by (try dsimp only); omega) _, blk_put (blk_far h.h5 (by (try dsimp only); omega) _) 0 e rfl, below_set (below_set h.hB (by (try dsimp only); omega)) (by (try dsimp only); omega)⟩
abbrev acL (l : SLeaf) : Array Value := #[.bool l.f0, .string l.f1, .string l.f2, .int .u64 l.f3.f0, .int .u64 l.f3.f1]
theorem ownB {W W' : World} {base n size : Nat} {e : TypeId} {v : Value} {xs : List Value} (h : W.ownsRow base e size v n xs) (hb : Below W.heap.size W W') : W'.ownsRow base e size v n xs := by
 obtain ⟨hlen, h⟩ := h
 refine ⟨hlen, ?_⟩
 rcases h with h | ⟨g', cap', cur, hv, hbb, hg, hr⟩
 ·
  exact .inl h
 ·
  exact .inr ⟨g', cap', cur, hv, hbb, blk_below hg hb, hr⟩
theorem wp_forget {P : Program} {c : Code} {Q : Exit → Act → World → Prop} {a : Act} {W : World} (F : (Nat → Value) → Act) (ha : a = F (fun i => a.tmps.getD i undef)) (h : ∀ x, Code.wp P c Q (F x) W) : Code.wp P c Q a W := by
 rw [ha]; exact h _
structure Nw15 (W0 W : World) (wd : Int) (lf : List SLeaf) (l : Nat → Bool) (γ κ δ : Nat) : Prop where
 hB : Below W0.heap.size W0 W
 hl : l 2 = true → W0.heap.size ≤ γ ∧ γ < W.heap.size ∧ W.ownsRow W0.heap.size 36 5 (.slice (some ⟨γ, 0, none⟩) lf.length κ) lf.length (cellsL lf)
 o3 : l 3 = true → l 2 = true
 o4 : l 4 = true → l 2 = true
 o5 : l 5 = true → l 4 = true
 ht : l 4 = true → W0.heap.size ≤ δ ∧ δ ≠ γ ∧ W.heap[δ]? = some (.cells #[.int .i64 wd, .slice (some ⟨γ, 0, none⟩) lf.length κ, .slice none 0 0] 105 (0, 0))
theorem Nw15.same {W0 W : World} {wd : Int} {lf : List SLeaf} {l : Nat → Bool} {γ κ δ : Nat} (h : Nw15 W0 W wd lf l γ κ δ) (i : Nat) (h2 : i < 2) : Nw15 W0 W wd lf (upd l i) γ κ δ := by
 have e2 : upd l i 2 = l 2 := by unfold upd; rw [if_neg (by omega)]
 have e3 : upd l i 3 = l 3 := by unfold upd; rw [if_neg (by omega)]
 have e4 : upd l i 4 = l 4 := by unfold upd; rw [if_neg (by omega)]
 have e5 : upd l i 5 = l 5 := by unfold upd; rw [if_neg (by omega)]
 exact ⟨h.hB, by rw [e2]; exact h.hl, by rw [e2, e3]; exact h.o3, by rw [e2, e4]; exact h.o4, by rw [e5, e4]; exact h.o5, by rw [e4]; exact h.ht⟩
theorem Nw15.three {W0 W : World} {wd : Int} {lf : List SLeaf} {l : Nat → Bool} {γ κ δ : Nat} (h : Nw15 W0 W wd lf l γ κ δ) (h2 : l 2 = true) : Nw15 W0 W wd lf (upd l 3) γ κ δ :=
 ⟨h.hB, h.hl, fun _ => h2, h.o4, h.o5, h.ht⟩
theorem Nw15.five {W0 W : World} {wd : Int} {lf : List SLeaf} {l : Nat → Bool} {γ κ δ : Nat} (h : Nw15 W0 W wd lf l γ κ δ) (h4 : l 4 = true) : Nw15 W0 W wd lf (upd l 5) γ κ δ :=
 ⟨h.hB, h.hl, h.o3, h.o4, fun _ => h4, h.ht⟩
theorem Nw15.no3 {W0 W : World} {wd : Int} {lf : List SLeaf} {l : Nat → Bool} {γ κ δ : Nat} (h : Nw15 W0 W wd lf l γ κ δ) (h2 : l 2 = false) : l 3 = false := by
 cases hx : l 3 with
 | false => rfl
 | true => rw [h.o3 hx] at h2; cases h2
theorem Nw15.no5 {W0 W : World} {wd : Int} {lf : List SLeaf} {l : Nat → Bool} {γ κ δ : Nat} (h : Nw15 W0 W wd lf l γ κ δ) (h4 : l 4 = false) : l 5 = false := by
 cases hx : l 5 with
 | false => rfl
 | true => rw [h.o5 hx] at h4; cases h4
theorem Nw15.clone {W0 W W' : World} {wd : Int} {lf : List SLeaf} {l : Nat → Bool} {γ κ δ g cap : Nat} (h : Nw15 W0 W wd lf l γ κ δ) (h2 : l 2 = false) (hb : Below W.heap.size W W') (ho : W'.ownsRow W.heap.size 36 5 (.slice (some ⟨g, 0, none⟩) lf.length cap) lf.length (cellsL lf)) (hg : g < W'.heap.size) (hn : 1 ≤ lf.length) : Nw15 W0 W' wd lf (upd l 2) g cap δ := by
 have e4 : upd l 2 4 = l 4 := rfl
 have e3 : upd l 2 3 = l 3 := rfl
 have h4 : l 4 = false := by
  cases hx : l 4 with
  | false => rfl
  | true => rw [h.o4 hx] at h2; cases h2
 have hge : W.heap.size ≤ g := (ho.lt g rfl).1
 refine ⟨h.hB.trans (hb.mono h.hB.size), fun _ => ⟨Nat.le_trans h.hB.size hge, hg, ?_⟩, (fun _ => rfl), (fun _ => rfl), h.o5, fun h' => by rw [e4, h4] at h'; cases h'⟩
 obtain ⟨hlen, ho⟩ := ho
 refine ⟨hlen, ?_⟩
 rcases ho with ⟨h1, h2⟩ | ⟨g', cap', cur, hv, hbb, hr⟩
 ·
  exact .inl ⟨h1, h2⟩
 ·
  exact .inr ⟨g', cap', cur, hv, Nat.le_trans h.hB.size hbb, hr⟩
theorem Nw15.box {W0 W : World} {wd : Int} {lf : List SLeaf} {l : Nat → Bool} {γ κ δ : Nat} (h : Nw15 W0 W wd lf l γ κ δ) (h3' : l 3 = true) : Nw15 W0 (W.alloc (.cells #[.int .i64 wd, .slice (some ⟨γ, 0, none⟩) lf.length κ, .slice none 0 0] 105 (0, 0))) wd lf (upd l 4) γ κ W.heap.size := by
 have h2 := h.o3 h3'
 obtain ⟨h1, h3, h5⟩ := h.hl h2
 exact ⟨below_alloc h.hB _, fun _ => ⟨h1, by rw [World.size_alloc]; omega, ownB h5 (below_alloc (Below.refl _ _) _)⟩, h.o3, (fun _ => h2), (fun _ => rfl), fun _ => ⟨h.hB.size, by omega, blk_new W _⟩⟩
end Go.Proofs.YtfcodmdckcihmaaDoor.P
