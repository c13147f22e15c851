-- Several texts of this workplace as one.
import Derived.Test.YtlmmpncdemblbaaGreatDoorZVerifyTells3
import Derived.Test.YtlmmpncdemblbaaGreatDoorProg
import Derived.Deep.OwnRows
import Derived.Laws.Rows
import Derived.Test.YtlmmpncdemblbaaGreatDoorRows
import Derived.Test.YtlmmpncdemblbaaGreatDoorCards
import Derived.Test.YtlmmpncdemblbaaGreatDoorTie
namespace Go.Proofs.YtlmmpncdemblbaaGreatDoor.P
open Go.RowKit Go.Proofs.YtlmmpncdemblbaaGreatDoorW.PrintWords Go.Proofs.YtlmmpncdemblbaaGreatDoorW.PrintLast Go.Proofs.YtlmmpncdemblbaaGreatDoorW.PrintMore
attribute [local go_sem] max2_int min2_int max_two min_two max_three min_three max_four min_four-- for this text's walks alone
set_option linter.unusedVariables false
set_option linter.unusedSimpArgs false
def node_Join.j0 : Nat → Int → Bool → ByteArray → Int → Int → ByteArray → Int → Int → Option (ByteArray × Int × Int × Int)
 | 0, _, _, _, _, _, _, _, _ => none
 | k + 1, x0, x19, x171000, x171001, x171002, x172000, x172001, x172002 => if x19 = true then (some ((⟨#[]⟩ : ByteArray), 0, 0, 70)) else ((u128_Add.f x171001 x171002 x172001 x172002).bind fun bt175 => (if bt175.2.2 = 0 then ((tag_NodeText.f x171000 x171001 x171002 x172000 x172001 x172002).bind fun t179 => ((tag_Digest.f x0 t179).bind fun t180 => (some (t180, bt175.1, bt175.2.1, 0)))) else (some ((⟨#[]⟩ : ByteArray), 0, 0, 10))))
def node_Join.f (k : Nat) (a0 : Int) (a1_0 : ByteArray) (a1_1 : Int) (a1_2 : Int) (a2_0 : ByteArray) (a2_1 : Int) (a2_2 : Int) : Option (ByteArray × Int × Int × Int) := (node_Of.f a0 a1_0 a1_1 a1_2).bind fun t173 => (if t173 = true then ((node_Of.f a0 a2_0 a2_1 a2_2).bind fun t174 => (node_Join.j0 k a0 (!t174) a1_0 a1_1 a1_2 a2_0 a2_1 a2_2)) else (node_Join.j0 k a0 true a1_0 a1_1 a1_2 a2_0 a2_1 a2_2))
def node_Join.T6 : Bool × List (List Nat × List Nat) := (true, [([], []), ([], []), ([], []), ([1, 2], [1, 2]), ([0, 3, 3], [0, 3]), ([], []), ([4, 5], [4, 5]), ([6, 4, 0, 1, 2, 3, 4, 5, 6], [6]), ([7, 0, 1, 2, 3, 4, 5, 6, 7], [])])
def node_Join.B6 : List Nat := [0, 0, 0, 6, 15, 0, 63, 127, 255]
theorem node_Join.tab6 : rtab .any (opsOf Tryz.f53 6) = node_Join.T6 := by kernel_rfl
theorem node_Join.bits6 : waitsOk node_Join.T6.2 node_Join.B6 = true := by kernel_rfl
set_option maxHeartbeats 8000000 in
set_option maxRecDepth 100000 in
theorem node_Join.calls (k : Nat) (a0 : Int) (a1_0 : ByteArray) (a1_1 : Int) (a1_2 : Int) (a2_0 : ByteArray) (a2_1 : Int) (a2_2 : Int) (r1 : ByteArray) (r2 : Int) (r3 : Int) (r4 : Int) (w : World) (hK : Laid w) (h : node_Join.f k a0 a1_0 a1_1 a1_2 a2_0 a2_1 a2_2 = some (r1, r2, r3, r4)) :
  Calls Tryz.prog 53 #[.int .i64 a0, .agg #[.string a1_0, .int .u64 a1_1, .int .u64 a1_2], .agg #[.string a2_0, .int .u64 a2_1, .int .u64 a2_2]] w fun e w' => e = .returned (.tuple #[.agg #[.string r1, .int .u64 r2, .int .u64 r3], .int .i64 r4]) ∧ Below w.heap.size w w' := by
 have hu67 := Tryz.underlying67
 have hu24 := Tryz.underlying24
 have HB := aM' (Below.refl w.heap.size w)
 have HLD := aM' hK
 clear hK
 have H : ((node_Of.f a0 a1_0 a1_1 a1_2).bind fun t173 => (if t173 = true then ((node_Of.f a0 a2_0 a2_1 a2_2).bind fun t174 => (node_Join.j0 k a0 (!t174) a1_0 a1_1 a1_2 a2_0 a2_1 a2_2)) else (node_Join.j0 k a0 true a1_0 a1_1 a1_2 a2_0 a2_1 a2_2))) = some (r1, r2, r3, r4) := h
 clear h
 have HC4 := aM' H
 clear H
 go_enter Tryz.func53, Tryz.ntmps53
 go_upto_region 1 with (first | ((with_reducible refine gate_dst (N := 4) rfl ?_); refine box_event ?hg (N := 4) ?hd (cs := #[.string a1_0, .int .u64 a1_1, .int .u64 a1_2]) (t := 67) ?hr ?_; (case hd => rfl); (case hg => rfl); (case hr => first | (go_simp; done) | (go_simp; rfl)); intro gb170 hg w5 hbox hb; have n0_ := aM' (below_step (by repeat (first | (with_reducible first | exact HB.out | apply below_alloc | apply pw_below_drewN | apply below_drew1) | exact HB.out)) hb); have n1_ := aM' (hbox); have n2_ := aM' ((by rw [hg]; exact (below_size (by repeat (first | (with_reducible first | exact HB.out | apply below_alloc | apply pw_below_drewN | apply below_drew1) | exact HB.out))) : w.heap.size ≤ gb170)); have n3_ := aM' ((by rw [hg]; exact (below_size (by repeat (first | (with_reducible first | exact HB.out | apply below_alloc | apply pw_below_drewN | apply below_drew1) | exact HB.out))) : w.heap.size ≤ gb170)); clear HB; have HB := n0_; have BK170 := n1_; have GW170 := n2_; have GE170 := n3_; clear n0_ n1_ n2_ n3_; clear hb hbox hg) | ((with_reducible refine gate_dst (N := 5) rfl ?_); refine box_event ?hg (N := 5) ?hd (cs := #[.string a2_0, .int .u64 a2_1, .int .u64 a2_2]) (t := 67) ?hr ?_; (case hd => rfl); (case hg => rfl); (case hr => first | (go_simp; done) | (go_simp; rfl)); intro gb171 hg w6 hbox hb; have n0_ := aM' (blk_below (g := gb170) (o := .cells #[.string a1_0, .int .u64 a1_1, .int .u64 a1_2] 67 (0, 0)) (by (with_reducible repeat (first | refine blk_drewN ?_ _ | refine blk_drew ?_ | refine blk_alloc ?_ _)); exact BK170.out) hb); have n1_ := aM' (below_step (by repeat (first | (with_reducible first | exact HB.out | apply below_alloc | apply pw_below_drewN | apply below_drew1 | refine below_set ?_ GE170.out) | exact HB.out)) hb); have n2_ := aM' (hbox); have n3_ := aM' ((by rw [hg]; exact (below_size (by repeat (first | (with_reducible first | exact HB.out | apply below_alloc | apply pw_below_drewN | apply below_drew1 | refine below_set ?_ GE170.out) | exact HB.out))) : w.heap.size ≤ gb171)); have n4_ := aM' ((by rw [hg]; exact (below_size (by repeat (first | (with_reducible first | exact HB.out | apply below_alloc | apply pw_below_drewN | apply below_drew1 | refine below_set ?_ GE170.out) | exact HB.out))) : w.heap.size ≤ gb171)); have n5_ := aM' ((by rw [hg]; exact Nat.ne_of_lt (blk_lt (g := gb170) (o := .cells #[.string a1_0, .int .u64 a1_1, .int .u64 a1_2] 67 (0, 0)) (by (with_reducible repeat (first | refine blk_drewN ?_ _ | refine blk_drew ?_ | refine blk_alloc ?_ _)); exact BK170.out)) : gb170 ≠ gb171)); have n6_ := aM' ((by rw [hg]; exact Nat.ne_of_gt (blk_lt (g := gb170) (o := .cells #[.string a1_0, .int .u64 a1_1, .int .u64 a1_2] 67 (0, 0)) (by (with_reducible repeat (first | refine blk_drewN ?_ _ | refine blk_drew ?_ | refine blk_alloc ?_ _)); exact BK170.out)) : gb171 ≠ gb170)); clear BK170; clear HB; have BK170 := n0_; have HB := n1_; have BK171 := n2_; have GW171 := n3_; have GE171 := n4_; have NB170_171 := n5_; have NB171_170 := n6_; clear n0_ n1_ n2_ n3_ n4_ n5_ n6_; clear hb hbox hg) | ((with_reducible refine gate_dst (N := 6) rfl ?_); refine box_event ?hg (N := 6) ?hd (cs := #[.string (⟨#[]⟩ : ByteArray), .int .u64 0, .int .u64 0]) (t := 67) ?hr ?_; (case hd => rfl); (case hg => rfl); (case hr => first | (go_simp; done) | (go_simp; rfl)); intro gb172 hg w7 hbox hb; have n0_ := aM' (blk_below (g := gb170) (o := .cells #[.string a1_0, .int .u64 a1_1, .int .u64 a1_2] 67 (0, 0)) (by (with_reducible repeat (first | refine blk_drewN ?_ _ | refine blk_drew ?_ | refine blk_alloc ?_ _)); exact BK170.out) hb); have n1_ := aM' (blk_below (g := gb171) (o := .cells #[.string a2_0, .int .u64 a2_1, .int .u64 a2_2] 67 (0, 0)) (by (with_reducible repeat (first | refine blk_drewN ?_ _ | refine blk_drew ?_ | refine blk_alloc ?_ _)); exact BK171.out) hb); have n2_ := aM' (below_step (by repeat (first | (with_reducible first | exact HB.out | apply below_alloc | apply pw_below_drewN | apply below_drew1 | refine below_set ?_ GE170.out | refine below_set ?_ GE171.out) | exact HB.out)) hb); have n3_ := aM' (hbox); have n4_ := aM' ((by rw [hg]; exact (below_size (by repeat (first | (with_reducible first | exact HB.out | apply below_alloc | apply pw_below_drewN | apply below_drew1 | refine below_set ?_ GE170.out | refine below_set ?_ GE171.out) | exact HB.out))) : w.heap.size ≤ gb172)); have n5_ := aM' ((by rw [hg]; exact (below_size (by repeat (first | (with_reducible first | exact HB.out | apply below_alloc | apply pw_below_drewN | apply below_drew1 | refine below_set ?_ GE170.out | refine below_set ?_ GE171.out) | exact HB.out))) : w.heap.size ≤ gb172)); have n6_ := aM' ((by rw [hg]; exact Nat.ne_of_lt (blk_lt (g := gb170) (o := .cells #[.string a1_0, .int .u64 a1_1, .int .u64 a1_2] 67 (0, 0)) (by (with_reducible repeat (first | refine blk_drewN ?_ _ | refine blk_drew ?_ | refine blk_alloc ?_ _)); exact BK170.out)) : gb170 ≠ gb172)); have n7_ := aM' ((by rw [hg]; exact Nat.ne_of_gt (blk_lt (g := gb170) (o := .cells #[.string a1_0, .int .u64 a1_1, .int .u64 a1_2] 67 (0, 0)) (by (with_reducible repeat (first | refine blk_drewN ?_ _ | refine blk_drew ?_ | refine blk_alloc ?_ _)); exact BK170.out)) : gb172 ≠ gb170)); have n8_ := aM' ((by rw [hg]; exact Nat.ne_of_lt (blk_lt (g := gb171) (o := .cells #[.string a2_0, .int .u64 a2_1, .int .u64 a2_2] 67 (0, 0)) (by (with_reducible repeat (first | refine blk_drewN ?_ _ | refine blk_drew ?_ | refine blk_alloc ?_ _)); exact BK171.out)) : gb171 ≠ gb172)); have n9_ := aM' ((by rw [hg]; exact Nat.ne_of_gt (blk_lt (g := gb171) (o := .cells #[.string a2_0, .int .u64 a2_1, .int .u64 a2_2] 67 (0, 0)) (by (with_reducible repeat (first | refine blk_drewN ?_ _ | refine blk_drew ?_ | refine blk_alloc ?_ _)); exact BK171.out)) : gb172 ≠ gb171)); clear BK170; clear BK171; clear HB; have BK170 := n0_; have BK171 := n1_; have HB := n2_; have BK172 := n3_; have GW172 := n4_; have GE172 := n5_; have NB170_172 := n6_; have NB172_170 := n7_; have NB171_172 := n8_; have NB172_171 := n9_; clear n0_ n1_ n2_ n3_ n4_ n5_ n6_ n7_ n8_ n9_; clear hb hbox hg))
 (try simp only [Act.put, List.setIfInBounds_toArray, List.set_cons_zero, List.set_cons_succ])
 go_cut [19] (fun v19 wc => ∃ (kq : Nat) (x19_3 : Bool), v19 = .bool x19_3 ∧ Aside0 (node_Join.j0 kq a0 x19_3 a1_0 a1_1 a1_2 a2_0 a2_1 a2_2 = some (r1, r2, r3, r4)) ∧ Aside0 (kq ≤ k) ∧ Aside0 (wc.heap[gb170]? = some (.cells #[.string a1_0, .int .u64 a1_1, .int .u64 a1_2] 67 (0, 0))) ∧ Aside0 (wc.heap[gb171]? = some (.cells #[.string a2_0, .int .u64 a2_1, .int .u64 a2_2] 67 (0, 0))) ∧ Aside0 (wc.heap[gb172]? = some (.cells #[.string (⟨#[]⟩ : ByteArray), .int .u64 0, .int .u64 0] 67 (0, 0))) ∧ Aside0 (Below w.heap.size w wc))
 case first =>
  have H := HC4.out
  clear HC4
  replace H := Option.bind_eq_some_iff.mp H
  obtain ⟨t173, A80, H⟩ := H
  replace H : (if t173 = true then ((node_Of.f a0 a2_0 a2_1 a2_2).bind fun t174 => (node_Join.j0 k a0 (!t174) a1_0 a1_1 a1_2 a2_0 a2_1 a2_2)) else (node_Join.j0 k a0 true a1_0 a1_1 a1_2 a2_0 a2_1 a2_2)) = some (r1, r2, r3, r4) := H
  have A8 := aM' A80
  clear A80
  by_cases c9 : t173 = true
  ·
   subst c9
   have H1 : ((node_Of.f a0 a2_0 a2_1 a2_2).bind fun t174 => (node_Join.j0 k a0 (!t174) a1_0 a1_1 a1_2 a2_0 a2_1 a2_2)) = some (r1, r2, r3, r4) := by rw [if_pos rfl] at H; exact H
   clear H
   have H := H1
   clear H1
   replace H := Option.bind_eq_some_iff.mp H
   obtain ⟨t174, A100, H⟩ := H
   replace H : (node_Join.j0 k a0 (!t174) a1_0 a1_1 a1_2 a2_0 a2_1 a2_2) = some (r1, r2, r3, r4) := H
   have A10 := aM' A100
   clear A100
   have H' := aM' H
   clear H
   have hnb11 := NB170_171.out
   have hnc11 := NB171_170.out
   have hnb12 := NB170_172.out
   have hnc12 := NB172_170.out
   have hcz13_0 : w7.cell? ⟨gb170, 0, none⟩ = some (.string a1_0) := (blk_cell BK170.out 0).trans rfl
   have hcz13_1 : w7.cell? ⟨gb170, 1, none⟩ = some (.int .u64 a1_1) := (blk_cell BK170.out 1).trans rfl
   have hcz13_2 : w7.cell? ⟨gb170, 2, none⟩ = some (.int .u64 a1_2) := (blk_cell BK170.out 2).trans rfl
   have hfz13_0 := blk_frozen BK170.out 0
   have hfz13_1 := blk_frozen BK170.out 1
   have hfz13_2 := blk_frozen BK170.out 2
   go_wp2_with (first | ((with_reducible refine gate_callee (f := 49) rfl ?_); refine goesL_ (some 12) rfl rfl Tryz.func49 (by kernel_rfl) rfl #[.int .i64 a0, .agg #[.string a1_0, .int .u64 a1_1, .int .u64 a1_2]] rfl (by (try simp only [List.map_toArray, List.map_cons, List.map_nil]); first | done | rfl | (simp only [List.length_drop, List.length_take]; rfl)) ?_; (with_reducible refine (node_Of.calls a0 a1_0 a1_1 a1_2 true _ A8.out).mono ?_); rintro e w14 ⟨rfl, hb⟩; refine ⟨_, rfl, ?_⟩; have n0_ := aM' (blk_below (g := gb170) (o := .cells #[.string a1_0, .int .u64 a1_1, .int .u64 a1_2] 67 (0, 0)) (by (with_reducible repeat (first | refine blk_drewN ?_ _ | refine blk_drew ?_ | refine blk_alloc ?_ _)); exact BK170.out) hb); have n1_ := aM' (blk_below (g := gb171) (o := .cells #[.string a2_0, .int .u64 a2_1, .int .u64 a2_2] 67 (0, 0)) (by (with_reducible repeat (first | refine blk_drewN ?_ _ | refine blk_drew ?_ | refine blk_alloc ?_ _)); exact BK171.out) hb); have n2_ := aM' (blk_below (g := gb172) (o := .cells #[.string (⟨#[]⟩ : ByteArray), .int .u64 0, .int .u64 0] 67 (0, 0)) (by (with_reducible repeat (first | refine blk_drewN ?_ _ | refine blk_drew ?_ | refine blk_alloc ?_ _)); exact BK172.out) hb); have n3_ := aM' (below_step (by repeat (first | (with_reducible first | exact HB.out | apply below_alloc | apply pw_below_drewN | apply below_drew1 | refine below_set ?_ GE170.out | refine below_set ?_ GE171.out | refine below_set ?_ GE172.out) | exact HB.out)) hb); clear BK170; clear BK171; clear BK172; clear HB; have BK170 := n0_; have BK171 := n1_; have BK172 := n2_; have HB := n3_; clear n0_ n1_ n2_ n3_; (try clear hb); (try clear hb2); (try clear hk); (try clear hi); have hnb15 := NB171_172.out; have hnc15 := NB172_171.out; have hcz16_0 : w14.cell? ⟨gb171, 0, none⟩ = some (.string a2_0) := (blk_cell BK171.out 0).trans rfl; have hcz16_1 : w14.cell? ⟨gb171, 1, none⟩ = some (.int .u64 a2_1) := (blk_cell BK171.out 1).trans rfl; have hcz16_2 : w14.cell? ⟨gb171, 2, none⟩ = some (.int .u64 a2_2) := (blk_cell BK171.out 2).trans rfl; have hfz16_0 := blk_frozen BK171.out 0; have hfz16_1 := blk_frozen BK171.out 1; have hfz16_2 := blk_frozen BK171.out 2) | (go_at_call 49; (with_reducible refine (node_Of.calls a0 a2_0 a2_1 a2_2 t174 _ A10.out).mono ?_); rintro e w17 ⟨rfl, hb⟩; have n0_ := aM' (blk_below (g := gb170) (o := .cells #[.string a1_0, .int .u64 a1_1, .int .u64 a1_2] 67 (0, 0)) (by (with_reducible repeat (first | refine blk_drewN ?_ _ | refine blk_drew ?_ | refine blk_alloc ?_ _)); exact BK170.out) hb); have n1_ := aM' (blk_below (g := gb171) (o := .cells #[.string a2_0, .int .u64 a2_1, .int .u64 a2_2] 67 (0, 0)) (by (with_reducible repeat (first | refine blk_drewN ?_ _ | refine blk_drew ?_ | refine blk_alloc ?_ _)); exact BK171.out) hb); have n2_ := aM' (blk_below (g := gb172) (o := .cells #[.string (⟨#[]⟩ : ByteArray), .int .u64 0, .int .u64 0] 67 (0, 0)) (by (with_reducible repeat (first | refine blk_drewN ?_ _ | refine blk_drew ?_ | refine blk_alloc ?_ _)); exact BK172.out) hb); have n3_ := aM' (below_step (by repeat (first | (with_reducible first | exact HB.out | apply below_alloc | apply pw_below_drewN | apply below_drew1 | refine below_set ?_ GE170.out | refine below_set ?_ GE171.out | refine below_set ?_ GE172.out) | exact HB.out)) hb); clear BK170; clear BK171; clear BK172; clear HB; have BK170 := n0_; have BK171 := n1_; have BK172 := n2_; have HB := n3_; clear n0_ n1_ n2_ n3_; (try clear hb); (try clear hb2); (try clear hk); (try clear hi)))
   go_meet
   case rel => exact ⟨_, (!t174), (by first | rfl | (simp; done) | (simp [*]; done)), H', ⟨by first | omega | exact Nat.le_refl _⟩, ⟨by (with_reducible repeat (first | refine blk_drewN ?_ _ | refine blk_drew ?_ | refine blk_alloc ?_ _)); exact BK170.out⟩, ⟨by (with_reducible repeat (first | refine blk_drewN ?_ _ | refine blk_drew ?_ | refine blk_alloc ?_ _)); exact BK171.out⟩, ⟨by (with_reducible repeat (first | refine blk_drewN ?_ _ | refine blk_drew ?_ | refine blk_alloc ?_ _)); exact BK172.out⟩, ⟨by repeat (first | (with_reducible first | exact HB.out | apply below_alloc | apply pw_below_drewN | apply below_drew1 | refine below_set ?_ GE170.out | refine below_set ?_ GE171.out | refine below_set ?_ GE172.out) | exact HB.out)⟩⟩
  ·
   replace c9 := Bool.eq_false_iff.mpr c9
   subst c9
   have H1 : (node_Join.j0 k a0 true a1_0 a1_1 a1_2 a2_0 a2_1 a2_2) = some (r1, r2, r3, r4) := by rw [if_neg (show ¬ (false = true) by decide)] at H; exact H
   clear H
   have H := H1
   clear H1
   have H' := aM' H
   clear H
   have hnb18 := NB170_171.out
   have hnc18 := NB171_170.out
   have hnb19 := NB170_172.out
   have hnc19 := NB172_170.out
   have hcz20_0 : w7.cell? ⟨gb170, 0, none⟩ = some (.string a1_0) := (blk_cell BK170.out 0).trans rfl
   have hcz20_1 : w7.cell? ⟨gb170, 1, none⟩ = some (.int .u64 a1_1) := (blk_cell BK170.out 1).trans rfl
   have hcz20_2 : w7.cell? ⟨gb170, 2, none⟩ = some (.int .u64 a1_2) := (blk_cell BK170.out 2).trans rfl
   have hfz20_0 := blk_frozen BK170.out 0
   have hfz20_1 := blk_frozen BK170.out 1
   have hfz20_2 := blk_frozen BK170.out 2
   go_wp2_with (first | ((with_reducible refine gate_callee (f := 49) rfl ?_); refine goesL_ (some 12) rfl rfl Tryz.func49 (by kernel_rfl) rfl #[.int .i64 a0, .agg #[.string a1_0, .int .u64 a1_1, .int .u64 a1_2]] rfl (by (try simp only [List.map_toArray, List.map_cons, List.map_nil]); first | done | rfl | (simp only [List.length_drop, List.length_take]; rfl)) ?_; (with_reducible refine (node_Of.calls a0 a1_0 a1_1 a1_2 false _ A8.out).mono ?_); rintro e w21 ⟨rfl, hb⟩; refine ⟨_, rfl, ?_⟩; have n0_ := aM' (blk_below (g := gb170) (o := .cells #[.string a1_0, .int .u64 a1_1, .int .u64 a1_2] 67 (0, 0)) (by (with_reducible repeat (first | refine blk_drewN ?_ _ | refine blk_drew ?_ | refine blk_alloc ?_ _)); exact BK170.out) hb); have n1_ := aM' (blk_below (g := gb171) (o := .cells #[.string a2_0, .int .u64 a2_1, .int .u64 a2_2] 67 (0, 0)) (by (with_reducible repeat (first | refine blk_drewN ?_ _ | refine blk_drew ?_ | refine blk_alloc ?_ _)); exact BK171.out) hb); have n2_ := aM' (blk_below (g := gb172) (o := .cells #[.string (⟨#[]⟩ : ByteArray), .int .u64 0, .int .u64 0] 67 (0, 0)) (by (with_reducible repeat (first | refine blk_drewN ?_ _ | refine blk_drew ?_ | refine blk_alloc ?_ _)); exact BK172.out) hb); have n3_ := aM' (below_step (by repeat (first | (with_reducible first | exact HB.out | apply below_alloc | apply pw_below_drewN | apply below_drew1 | refine below_set ?_ GE170.out | refine below_set ?_ GE171.out | refine below_set ?_ GE172.out) | exact HB.out)) hb); clear BK170; clear BK171; clear BK172; clear HB; have BK170 := n0_; have BK171 := n1_; have BK172 := n2_; have HB := n3_; clear n0_ n1_ n2_ n3_; (try clear hb); (try clear hb2); (try clear hk); (try clear hi)))
   go_meet
   case rel => exact ⟨_, (true), (by first | rfl | (simp; done) | (simp [*]; done)), H', ⟨by first | omega | exact Nat.le_refl _⟩, ⟨by (with_reducible repeat (first | refine blk_drewN ?_ _ | refine blk_drew ?_ | refine blk_alloc ?_ _)); exact BK170.out⟩, ⟨by (with_reducible repeat (first | refine blk_drewN ?_ _ | refine blk_drew ?_ | refine blk_alloc ?_ _)); exact BK171.out⟩, ⟨by (with_reducible repeat (first | refine blk_drewN ?_ _ | refine blk_drew ?_ | refine blk_alloc ?_ _)); exact BK172.out⟩, ⟨by repeat (first | (with_reducible first | exact HB.out | apply below_alloc | apply pw_below_drewN | apply below_drew1 | refine below_set ?_ GE170.out | refine below_set ?_ GE171.out | refine below_set ?_ GE172.out) | exact HB.out)⟩⟩
 case rest =>
  clear HC4
  try clear c1
  try clear p2
  try clear c4
  try clear c5
  try clear c9
  try clear c11
  try clear c12
  try clear c15
  try clear c18
  try clear c19
  try clear hcz13_0
  try clear hcz13_1
  try clear hcz13_2
  try clear hcz16_0
  try clear hcz16_1
  try clear hcz16_2
  try clear hcz20_0
  try clear hcz20_1
  try clear hcz20_2
  try clear hfz13_0
  try clear hfz13_1
  try clear hfz13_2
  try clear hfz16_0
  try clear hfz16_1
  try clear hfz16_2
  try clear hfz20_0
  try clear hfz20_1
  try clear hfz20_2
  obtain ⟨kq, x19_3, rfl, HA, HJ3, BK170, BK171, BK172, HB⟩ := hcut
  cases kq with
  | zero => exact absurd HA.out (by simp [node_Join.j0])
  | succ kj3 =>
   have H := HA.out
   clear HA
   simp only [node_Join.j0] at H
   by_cases c22 : x19_3 = true
   ·
    subst c22
    have H1 : (some ((⟨#[]⟩ : ByteArray), 0, 0, 70)) = some (r1, r2, r3, r4) := by rw [if_pos rfl] at H; exact H
    clear H
    have H := H1
    clear H1
    simp only [Option.some.injEq, Prod.mk.injEq] at H
    obtain ⟨rfl, rfl, rfl, rfl⟩ := H
    have hnb23 := NB172_170.out
    have hnc23 := NB170_172.out
    have hnb24 := NB172_171.out
    have hnc24 := NB171_172.out
    have hcz25_0 : wc.cell? ⟨gb172, 0, none⟩ = some (.string (⟨#[]⟩ : ByteArray)) := (blk_cell BK172.out 0).trans rfl
    have hcz25_1 : wc.cell? ⟨gb172, 1, none⟩ = some (.int .u64 0) := (blk_cell BK172.out 1).trans rfl
    have hcz25_2 : wc.cell? ⟨gb172, 2, none⟩ = some (.int .u64 0) := (blk_cell BK172.out 2).trans rfl
    have hfz25_0 := blk_frozen BK172.out 0
    have hfz25_1 := blk_frozen BK172.out 1
    have hfz25_2 := blk_frozen BK172.out 2
    go_wp2
    refine bodyPost_ret (results_ct rfl _ _ gb172 67 #[.string (⟨#[]⟩ : ByteArray), .int .u64 0, .int .u64 0] (0, 0) _ rfl (by (with_reducible repeat (first | refine blk_drewN ?_ _ | refine blk_drew ?_ | refine blk_alloc ?_ _)); refine blk_put (cs := #[.string (⟨#[]⟩ : ByteArray), .int .u64 0, .int .u64 0]) ?_ 2 _ rfl; (with_reducible repeat (first | refine blk_drewN ?_ _ | refine blk_drew ?_ | refine blk_alloc ?_ _)); refine blk_put (cs := #[.string (⟨#[]⟩ : ByteArray), .int .u64 0, .int .u64 0]) ?_ 1 _ rfl; (with_reducible repeat (first | refine blk_drewN ?_ _ | refine blk_drew ?_ | refine blk_alloc ?_ _)); refine blk_put (cs := #[.string (⟨#[]⟩ : ByteArray), .int .u64 0, .int .u64 0]) ?_ 0 _ rfl; (with_reducible repeat (first | refine blk_drewN ?_ _ | refine blk_drew ?_ | refine blk_alloc ?_ _)); exact BK172.out) Tryz.underlying67 rfl (by kernel_rfl)) rfl ?_
    exact ⟨by first | rfl | (simp [errW_none, errW_some] <;> rfl) | (simp [*, errW_none, errW_some] <;> rfl), by repeat (first | (with_reducible first | exact HB.out | apply below_alloc | apply pw_below_drewN | apply below_drew1 | refine below_set ?_ GE170.out | refine below_set ?_ GE171.out | refine below_set ?_ GE172.out) | exact HB.out)⟩
   ·
    replace c22 := Bool.eq_false_iff.mpr c22
    subst c22
    have H1 : ((u128_Add.f a1_1 a1_2 a2_1 a2_2).bind fun bt175 => (if bt175.2.2 = 0 then ((tag_NodeText.f a1_0 a1_1 a1_2 a2_0 a2_1 a2_2).bind fun t179 => ((tag_Digest.f a0 t179).bind fun t180 => (some (t180, bt175.1, bt175.2.1, 0)))) else (some ((⟨#[]⟩ : ByteArray), 0, 0, 10)))) = some (r1, r2, r3, r4) := by rw [if_neg (show ¬ (false = true) by decide)] at H; exact H
    clear H
    have H := H1
    clear H1
    replace H := Option.bind_eq_some_iff.mp H
    obtain ⟨⟨t175, t176, t177⟩, A260, H⟩ := H
    replace H : (if t177 = 0 then ((tag_NodeText.f a1_0 a1_1 a1_2 a2_0 a2_1 a2_2).bind fun t179 => ((tag_Digest.f a0 t179).bind fun t180 => (some (t180, t175, t176, 0)))) else (some ((⟨#[]⟩ : ByteArray), 0, 0, 10))) = some (r1, r2, r3, r4) := H
    have A26 := aM' A260
    clear A260
    by_cases c27 : t177 = 0
    ·
     rw [if_pos c27] at H
     have c27b0 : (t177 == 0) = true := beq_iff_eq.mpr c27
     have c27b1 : (t177 != 0) = false := bne_eq_false_iff_eq.mpr c27
     clear c27
     replace H := Option.bind_eq_some_iff.mp H
     obtain ⟨t179, A280, H⟩ := H
     replace H : ((tag_Digest.f a0 t179).bind fun t180 => (some (t180, t175, t176, 0))) = some (r1, r2, r3, r4) := H
     have A28 := aM' A280
     clear A280
     replace H := Option.bind_eq_some_iff.mp H
     obtain ⟨t180, A290, H⟩ := H
     replace H : (some (t180, t175, t176, 0)) = some (r1, r2, r3, r4) := H
     have A29 := aM' A290
     clear A290
     simp only [Option.some.injEq, Prod.mk.injEq] at H
     obtain ⟨rfl, rfl, rfl, rfl⟩ := H
     have hnb30 := NB170_171.out
     have hnc30 := NB171_170.out
     have hnb31 := NB170_172.out
     have hnc31 := NB172_170.out
     have hcz32_0 : wc.cell? ⟨gb170, 0, none⟩ = some (.string a1_0) := (blk_cell BK170.out 0).trans rfl
     have hcz32_1 : wc.cell? ⟨gb170, 1, none⟩ = some (.int .u64 a1_1) := (blk_cell BK170.out 1).trans rfl
     have hcz32_2 : wc.cell? ⟨gb170, 2, none⟩ = some (.int .u64 a1_2) := (blk_cell BK170.out 2).trans rfl
     have hfz32_0 := blk_frozen BK170.out 0
     have hfz32_1 := blk_frozen BK170.out 1
     have hfz32_2 := blk_frozen BK170.out 2
     have hnb33 := NB171_172.out
     have hnc33 := NB172_171.out
     have hcz34_0 : wc.cell? ⟨gb171, 0, none⟩ = some (.string a2_0) := (blk_cell BK171.out 0).trans rfl
     have hcz34_1 : wc.cell? ⟨gb171, 1, none⟩ = some (.int .u64 a2_1) := (blk_cell BK171.out 1).trans rfl
     have hcz34_2 : wc.cell? ⟨gb171, 2, none⟩ = some (.int .u64 a2_2) := (blk_cell BK171.out 2).trans rfl
     have hfz34_0 := blk_frozen BK171.out 0
     have hfz34_1 := blk_frozen BK171.out 1
     have hfz34_2 := blk_frozen BK171.out 2
     try go_wp2_with (first | ((with_reducible refine gate_callee (f := 70) rfl ?_); refine goesL_ (some 26) rfl rfl Tryz.func70 (by kernel_rfl) rfl #[.agg #[.int .u64 a1_1, .int .u64 a1_2], .agg #[.int .u64 a2_1, .int .u64 a2_2]] rfl (by (try simp only [List.map_toArray, List.map_cons, List.map_nil]); first | done | rfl | (simp only [List.length_drop, List.length_take]; rfl)) ?_; (with_reducible refine (u128_Add.calls a1_1 a1_2 a2_1 a2_2 t175 t176 t177 _ A26.out).mono ?_); rintro e w35 ⟨rfl, hb⟩; refine ⟨_, rfl, ?_⟩; have n0_ := aM' (blk_below (g := gb170) (o := .cells #[.string a1_0, .int .u64 a1_1, .int .u64 a1_2] 67 (0, 0)) (by (with_reducible repeat (first | refine blk_drewN ?_ _ | refine blk_drew ?_ | refine blk_alloc ?_ _)); exact BK170.out) hb); have n1_ := aM' (blk_below (g := gb171) (o := .cells #[.string a2_0, .int .u64 a2_1, .int .u64 a2_2] 67 (0, 0)) (by (with_reducible repeat (first | refine blk_drewN ?_ _ | refine blk_drew ?_ | refine blk_alloc ?_ _)); exact BK171.out) hb); have n2_ := aM' (blk_below (g := gb172) (o := .cells #[.string (⟨#[]⟩ : ByteArray), .int .u64 0, .int .u64 0] 67 (0, 0)) (by (with_reducible repeat (first | refine blk_drewN ?_ _ | refine blk_drew ?_ | refine blk_alloc ?_ _)); exact BK172.out) hb); have n3_ := aM' (below_step (by repeat (first | (with_reducible first | exact HB.out | apply below_alloc | apply pw_below_drewN | apply below_drew1 | refine below_set ?_ GE170.out | refine below_set ?_ GE171.out | refine below_set ?_ GE172.out) | exact HB.out)) hb); clear BK170; clear BK171; clear BK172; clear HB; have BK170 := n0_; have BK171 := n1_; have BK172 := n2_; have HB := n3_; clear n0_ n1_ n2_ n3_; (try clear hb); (try clear hb2); (try clear hk); (try clear hi)) | ((with_reducible refine gate_dst (N := 8) rfl ?_); refine box_event ?hg (N := 8) ?hd (cs := #[.int .u64 0, .int .u64 0]) (t := 24) ?hr ?_; (case hd => rfl); (case hg => rfl); (case hr => first | (go_simp; done) | (go_simp; rfl)); intro gb178 hg w36 hbox hb; have n0_ := aM' (blk_below (g := gb170) (o := .cells #[.string a1_0, .int .u64 a1_1, .int .u64 a1_2] 67 (0, 0)) (by (with_reducible repeat (first | refine blk_drewN ?_ _ | refine blk_drew ?_ | refine blk_alloc ?_ _)); exact BK170.out) hb); have n1_ := aM' (blk_below (g := gb171) (o := .cells #[.string a2_0, .int .u64 a2_1, .int .u64 a2_2] 67 (0, 0)) (by (with_reducible repeat (first | refine blk_drewN ?_ _ | refine blk_drew ?_ | refine blk_alloc ?_ _)); exact BK171.out) hb); have n2_ := aM' (blk_below (g := gb172) (o := .cells #[.string (⟨#[]⟩ : ByteArray), .int .u64 0, .int .u64 0] 67 (0, 0)) (by (with_reducible repeat (first | refine blk_drewN ?_ _ | refine blk_drew ?_ | refine blk_alloc ?_ _)); exact BK172.out) hb); have n3_ := aM' (below_step (by repeat (first | (with_reducible first | exact HB.out | apply below_alloc | apply pw_below_drewN | apply below_drew1 | refine below_set ?_ GE170.out | refine below_set ?_ GE171.out | refine below_set ?_ GE172.out) | exact HB.out)) hb); have n4_ := aM' (hbox); have n5_ := aM' ((by rw [hg]; exact (below_size (by repeat (first | (with_reducible first | exact HB.out | apply below_alloc | apply pw_below_drewN | apply below_drew1 | refine below_set ?_ GE170.out | refine below_set ?_ GE171.out | refine below_set ?_ GE172.out) | exact HB.out))) : w.heap.size ≤ gb178)); have n6_ := aM' ((by rw [hg]; exact (below_size (by repeat (first | (with_reducible first | exact HB.out | apply below_alloc | apply pw_below_drewN | apply below_drew1 | refine below_set ?_ GE170.out | refine below_set ?_ GE171.out | refine below_set ?_ GE172.out) | exact HB.out))) : w.heap.size ≤ gb178)); have n7_ := aM' ((by rw [hg]; exact Nat.ne_of_lt (blk_lt (g := gb170) (o := .cells #[.string a1_0, .int .u64 a1_1, .int .u64 a1_2] 67 (0, 0)) (by (with_reducible repeat (first | refine blk_drewN ?_ _ | refine blk_drew ?_ | refine blk_alloc ?_ _)); exact BK170.out)) : gb170 ≠ gb178)); have n8_ := aM' ((by rw [hg]; exact Nat.ne_of_gt (blk_lt (g := gb170) (o := .cells #[.string a1_0, .int .u64 a1_1, .int .u64 a1_2] 67 (0, 0)) (by (with_reducible repeat (first | refine blk_drewN ?_ _ | refine blk_drew ?_ | refine blk_alloc ?_ _)); exact BK170.out)) : gb178 ≠ gb170)); have n9_ := aM' ((by rw [hg]; exact Nat.ne_of_lt (blk_lt (g := gb171) (o := .cells #[.string a2_0, .int .u64 a2_1, .int .u64 a2_2] 67 (0, 0)) (by (with_reducible repeat (first | refine blk_drewN ?_ _ | refine blk_drew ?_ | refine blk_alloc ?_ _)); exact BK171.out)) : gb171 ≠ gb178)); have n10_ := aM' ((by rw [hg]; exact Nat.ne_of_gt (blk_lt (g := gb171) (o := .cells #[.string a2_0, .int .u64 a2_1, .int .u64 a2_2] 67 (0, 0)) (by (with_reducible repeat (first | refine blk_drewN ?_ _ | refine blk_drew ?_ | refine blk_alloc ?_ _)); exact BK171.out)) : gb178 ≠ gb171)); have n11_ := aM' ((by rw [hg]; exact Nat.ne_of_lt (blk_lt (g := gb172) (o := .cells #[.string (⟨#[]⟩ : ByteArray), .int .u64 0, .int .u64 0] 67 (0, 0)) (by (with_reducible repeat (first | refine blk_drewN ?_ _ | refine blk_drew ?_ | refine blk_alloc ?_ _)); exact BK172.out)) : gb172 ≠ gb178)); have n12_ := aM' ((by rw [hg]; exact Nat.ne_of_gt (blk_lt (g := gb172) (o := .cells #[.string (⟨#[]⟩ : ByteArray), .int .u64 0, .int .u64 0] 67 (0, 0)) (by (with_reducible repeat (first | refine blk_drewN ?_ _ | refine blk_drew ?_ | refine blk_alloc ?_ _)); exact BK172.out)) : gb178 ≠ gb172)); clear BK170; clear BK171; clear BK172; clear HB; have BK170 := n0_; have BK171 := n1_; have BK172 := n2_; have HB := n3_; have BK178 := n4_; have GW178 := n5_; have GE178 := n6_; have NB170_178 := n7_; have NB178_170 := n8_; have NB171_178 := n9_; have NB178_171 := n10_; have NB172_178 := n11_; have NB178_172 := n12_; clear n0_ n1_ n2_ n3_ n4_ n5_ n6_ n7_ n8_ n9_ n10_ n11_ n12_; clear hb hbox hg; have hnb37 := NB178_170.out; have hnc37 := NB170_178.out; have hnb38 := NB178_171.out; have hnc38 := NB171_178.out; have hnb39 := NB178_172.out; have hnc39 := NB172_178.out; have hcz40_0 : w36.cell? ⟨gb178, 0, none⟩ = some (.int .u64 0) := (blk_cell BK178.out 0).trans rfl; have hcz40_1 : w36.cell? ⟨gb178, 1, none⟩ = some (.int .u64 0) := (blk_cell BK178.out 1).trans rfl; have hfz40_0 := blk_frozen BK178.out 0; have hfz40_1 := blk_frozen BK178.out 1))
     have n0_ : Aside0 (((w36.setCell ⟨gb178, 0, none⟩ (.int .u64 t175)).setCell ⟨gb178, 1, none⟩ (.int .u64 t176)).heap[gb170]? = some (.cells #[.string a1_0, .int .u64 a1_1, .int .u64 a1_2] 67 (0, 0))) := ⟨by (with_reducible repeat (first | refine blk_drewN ?_ _ | refine blk_drew ?_ | refine blk_alloc ?_ _)); refine blk_far ?_ NB170_178.out _; (with_reducible repeat (first | refine blk_drewN ?_ _ | refine blk_drew ?_ | refine blk_alloc ?_ _)); refine blk_far ?_ NB170_178.out _; (with_reducible repeat (first | refine blk_drewN ?_ _ | refine blk_drew ?_ | refine blk_alloc ?_ _)); exact BK170.out⟩
     have n1_ : Aside0 (((w36.setCell ⟨gb178, 0, none⟩ (.int .u64 t175)).setCell ⟨gb178, 1, none⟩ (.int .u64 t176)).heap[gb171]? = some (.cells #[.string a2_0, .int .u64 a2_1, .int .u64 a2_2] 67 (0, 0))) := ⟨by (with_reducible repeat (first | refine blk_drewN ?_ _ | refine blk_drew ?_ | refine blk_alloc ?_ _)); refine blk_far ?_ NB171_178.out _; (with_reducible repeat (first | refine blk_drewN ?_ _ | refine blk_drew ?_ | refine blk_alloc ?_ _)); refine blk_far ?_ NB171_178.out _; (with_reducible repeat (first | refine blk_drewN ?_ _ | refine blk_drew ?_ | refine blk_alloc ?_ _)); exact BK171.out⟩
     have n2_ : Aside0 (((w36.setCell ⟨gb178, 0, none⟩ (.int .u64 t175)).setCell ⟨gb178, 1, none⟩ (.int .u64 t176)).heap[gb172]? = some (.cells #[.string (⟨#[]⟩ : ByteArray), .int .u64 0, .int .u64 0] 67 (0, 0))) := ⟨by (with_reducible repeat (first | refine blk_drewN ?_ _ | refine blk_drew ?_ | refine blk_alloc ?_ _)); refine blk_far ?_ NB172_178.out _; (with_reducible repeat (first | refine blk_drewN ?_ _ | refine blk_drew ?_ | refine blk_alloc ?_ _)); refine blk_far ?_ NB172_178.out _; (with_reducible repeat (first | refine blk_drewN ?_ _ | refine blk_drew ?_ | refine blk_alloc ?_ _)); exact BK172.out⟩
     have n3_ : Aside0 (((w36.setCell ⟨gb178, 0, none⟩ (.int .u64 t175)).setCell ⟨gb178, 1, none⟩ (.int .u64 t176)).heap[gb178]? = some (.cells #[.int .u64 t175, .int .u64 t176] 24 (0, 0))) := ⟨by (with_reducible repeat (first | refine blk_drewN ?_ _ | refine blk_drew ?_ | refine blk_alloc ?_ _)); refine blk_put (cs := #[.int .u64 t175, .int .u64 0]) ?_ 1 _ rfl; (with_reducible repeat (first | refine blk_drewN ?_ _ | refine blk_drew ?_ | refine blk_alloc ?_ _)); refine blk_put (cs := #[.int .u64 0, .int .u64 0]) ?_ 0 _ rfl; (with_reducible repeat (first | refine blk_drewN ?_ _ | refine blk_drew ?_ | refine blk_alloc ?_ _)); exact BK178.out⟩
     have n4_ : Aside0 (Below w.heap.size w ((w36.setCell ⟨gb178, 0, none⟩ (.int .u64 t175)).setCell ⟨gb178, 1, none⟩ (.int .u64 t176))) := ⟨by repeat (first | (with_reducible first | exact HB.out | apply below_alloc | apply pw_below_drewN | apply below_drew1 | refine below_set ?_ GE170.out | refine below_set ?_ GE171.out | refine below_set ?_ GE172.out | refine below_set ?_ GE178.out) | exact HB.out)⟩
     (try clear BK170)
     (try clear BK171)
     (try clear BK172)
     (try clear BK178)
     (try clear HB)
     generalize ((w36.setCell ⟨gb178, 0, none⟩ (.int .u64 t175)).setCell ⟨gb178, 1, none⟩ (.int .u64 t176)) = w41 at n0_ n1_ n2_ n3_ n4_ ⊢
     have BK170 := n0_
     have BK171 := n1_
     have BK172 := n2_
     have BK178 := n3_
     have HB := n4_
     clear n0_ n1_ n2_ n3_ n4_
     have n0_ := aM' (blk_drew BK170.out)
     have n1_ := aM' (blk_drew BK171.out)
     have n2_ := aM' (blk_drew BK172.out)
     have n3_ := aM' (blk_drew BK178.out)
     have n4_ := aM' (below_drew1 HB.out)
     clear BK170
     clear BK171
     clear BK172
     clear BK178
     clear HB
     have BK170 := n0_
     have BK171 := n1_
     have BK172 := n2_
     have BK178 := n3_
     have HB := n4_
     clear n0_ n1_ n2_ n3_ n4_
     refine start_ (n := 9) (S := fun w' => w'.cell? ⟨gb170, 0, none⟩ = some (.string a1_0) ∧ w'.cell? ⟨gb170, 1, none⟩ = some (.int .u64 a1_1) ∧ w'.cell? ⟨gb170, 2, none⟩ = some (.int .u64 a1_2) ∧ w'.cell? ⟨gb171, 0, none⟩ = some (.string a2_0) ∧ w'.cell? ⟨gb171, 1, none⟩ = some (.int .u64 a2_1) ∧ w'.cell? ⟨gb171, 2, none⟩ = some (.int .u64 a2_2) ∧ w'.cell? ⟨gb178, 0, none⟩ = some (.int .u64 t175) ∧ w'.cell? ⟨gb178, 1, none⟩ = some (.int .u64 t176)) (ds := []) #[false, false, false, false, false, false, false, false, false] (by kernel_rfl) rfl rfl ⟨(blk_cell BK170.out 0).trans rfl, (blk_cell BK170.out 1).trans rfl, (blk_cell BK170.out 2).trans rfl, (blk_cell BK171.out 0).trans rfl, (blk_cell BK171.out 1).trans rfl, (blk_cell BK171.out 2).trans rfl, (blk_cell BK178.out 0).trans rfl, (blk_cell BK178.out 1).trans rfl⟩ (fun hHeld => ?_); refine with_tabW node_Join.tab6 node_Join.bits6 (fun HT_ HW_ => ?_)
     generalize w41.drew = w42 at BK170 BK171 BK172 BK178 HB hHeld ⊢
     refine pure_ (i := 0) (N := some 32) (v := ?_) (a' := ?_) #[true, false, false, false, false, false, false, false, false] rfl rfl (any_of HT_.out (by kernel_rfl)) (fun _ _ _ h => h) (Or.inl ⟨by rfl, ?_⟩) ?_ ?_
     rotate_left
     ·
      intro w'
      go_simp
      with_reducible rfl
     rotate_left
     ·
      simp only [Act.put, List.setIfInBounds_toArray, List.set_cons_zero, List.set_cons_succ, i64_w, i32_w]
      rfl
     refine take_ (i := 1) (N := some 33) (v := ?_) (a' := ?_) #[true, true, false, false, false, false, false, false, false] rfl rfl (take_ofW HT_.out HW_.out (by kernel_rfl)) (fun _ _ _ h => h) (Or.inl ⟨by rfl, ?_⟩) hHeld ?_ ?_
     rotate_left
     ·
      rintro w' ⟨s0, s1, s2, s3, s4, s5, s6, s7⟩
      go_simp
      with_reducible rfl
     rotate_left
     ·
      simp only [Act.put, List.setIfInBounds_toArray, List.set_cons_zero, List.set_cons_succ, i64_w, i32_w]
      rfl
     refine take_ (i := 2) (N := some 34) (v := ?_) (a' := ?_) #[true, true, true, false, false, false, false, false, false] rfl rfl (take_ofW HT_.out HW_.out (by kernel_rfl)) (fun _ _ _ h => h) (Or.inl ⟨by rfl, ?_⟩) hHeld ?_ ?_
     rotate_left
     ·
      rintro w' ⟨s0, s1, s2, s3, s4, s5, s6, s7⟩
      go_simp
      with_reducible rfl
     rotate_left
     ·
      simp only [Act.put, List.setIfInBounds_toArray, List.set_cons_zero, List.set_cons_succ, i64_w, i32_w]
      rfl
     refine take_ (i := 5) (N := some 37) (v := ?_) (a' := ?_) #[true, true, true, false, false, true, false, false, false] rfl rfl (take_ofW HT_.out HW_.out (by kernel_rfl)) (fun _ _ _ h => h) (Or.inl ⟨by rfl, ?_⟩) hHeld ?_ ?_
     rotate_left
     ·
      rintro w' ⟨s0, s1, s2, s3, s4, s5, s6, s7⟩
      go_simp
      with_reducible rfl
     rotate_left
     ·
      simp only [Act.put, List.setIfInBounds_toArray, List.set_cons_zero, List.set_cons_succ, i64_w, i32_w]
      rfl
     refine one_ (i := 3) (N := some 35) #[true, true, true, true, false, true, false, false, false] rfl rfl (one_of HT_.out (by kernel_rfl)) (by decide) (fun K hK => ?_)
     refine goes_ Tryz.func71 (by kernel_rfl) rfl #[.agg #[.string a1_0, .int .u64 a1_1, .int .u64 a1_2], .agg #[.string a2_0, .int .u64 a2_1, .int .u64 a2_2]] (by rfl) rfl rfl (by (try simp only [List.map_toArray, List.map_cons, List.map_nil]); first | done | rfl | (simp only [List.length_drop, List.length_take]; rfl)) ?_
     with_reducible refine (tag_NodeText.calls a1_0 a1_1 a1_2 a2_0 a2_1 a2_2 t179 _ A28.out).mono ?_
     rintro e w43 ⟨rfl, hb⟩
     refine ⟨_, rfl, ?_⟩
     have n0_ := aM' (blk_below (g := gb170) (o := .cells #[.string a1_0, .int .u64 a1_1, .int .u64 a1_2] 67 (0, 0)) (by (with_reducible repeat (first | refine blk_drewN ?_ _ | refine blk_drew ?_ | refine blk_alloc ?_ _)); exact BK170.out) hb)
     have n1_ := aM' (blk_below (g := gb171) (o := .cells #[.string a2_0, .int .u64 a2_1, .int .u64 a2_2] 67 (0, 0)) (by (with_reducible repeat (first | refine blk_drewN ?_ _ | refine blk_drew ?_ | refine blk_alloc ?_ _)); exact BK171.out) hb)
     have n2_ := aM' (blk_below (g := gb172) (o := .cells #[.string (⟨#[]⟩ : ByteArray), .int .u64 0, .int .u64 0] 67 (0, 0)) (by (with_reducible repeat (first | refine blk_drewN ?_ _ | refine blk_drew ?_ | refine blk_alloc ?_ _)); exact BK172.out) hb)
     have n3_ := aM' (blk_below (g := gb178) (o := .cells #[.int .u64 t175, .int .u64 t176] 24 (0, 0)) (by (with_reducible repeat (first | refine blk_drewN ?_ _ | refine blk_drew ?_ | refine blk_alloc ?_ _)); exact BK178.out) hb)
     have n4_ := aM' (below_step (by repeat (first | (with_reducible first | exact HB.out | apply below_alloc | apply pw_below_drewN | apply below_drew1 | refine below_set ?_ GE170.out | refine below_set ?_ GE171.out | refine below_set ?_ GE172.out | refine below_set ?_ GE178.out) | exact HB.out)) hb)
     clear BK170
     clear BK171
     clear BK172
     clear BK178
     clear HB
     have BK170 := n0_
     have BK171 := n1_
     have BK172 := n2_
     have BK178 := n3_
     have HB := n4_
     clear n0_ n1_ n2_ n3_ n4_
     (try clear hb)
     (try clear hb2)
     (try clear hk)
     (try clear hi)
     refine hK.out _ _ ⟨(blk_cell BK170.out 0).trans rfl, (blk_cell BK170.out 1).trans rfl, (blk_cell BK170.out 2).trans rfl, (blk_cell BK171.out 0).trans rfl, (blk_cell BK171.out 1).trans rfl, (blk_cell BK171.out 2).trans rfl, (blk_cell BK178.out 0).trans rfl, (blk_cell BK178.out 1).trans rfl⟩ (fun hHeld => ?_)
     clear hK K
     refine norm_ (a' := ?_) ?_ ?_
     rotate_left
     ·
      show Act.put _ (some 35) _ = _
      simp only [Act.put, List.setIfInBounds_toArray, List.set_cons_zero, List.set_cons_succ, i64_w, i32_w]
      rfl
     refine one_ (i := 4) (N := some 36) #[true, true, true, true, true, true, false, false, false] rfl rfl (one_of HT_.out (by kernel_rfl)) (by decide) (fun K hK => ?_)
     refine goes_ Tryz.func55 (by kernel_rfl) rfl #[.int .i64 a0, .string t179] (by rfl) rfl rfl (by (try simp only [List.map_toArray, List.map_cons, List.map_nil]); first | done | rfl | (simp only [List.length_drop, List.length_take]; rfl)) ?_
     with_reducible refine (tag_Digest.calls a0 t179 t180 _ ?side1 A29.out).mono ?_
     (case side1 => exact Laid.below HLD.out (by repeat (first | (with_reducible first | exact HB.out | apply below_alloc | apply pw_below_drewN | apply below_drew1 | refine below_set ?_ GE170.out | refine below_set ?_ GE171.out | refine below_set ?_ GE172.out | refine below_set ?_ GE178.out) | exact HB.out)))
     rintro e w44 ⟨rfl, hb⟩
     refine ⟨_, rfl, ?_⟩
     have n0_ := aM' (blk_below (g := gb170) (o := .cells #[.string a1_0, .int .u64 a1_1, .int .u64 a1_2] 67 (0, 0)) (by (with_reducible repeat (first | refine blk_drewN ?_ _ | refine blk_drew ?_ | refine blk_alloc ?_ _)); exact BK170.out) hb)
     have n1_ := aM' (blk_below (g := gb171) (o := .cells #[.string a2_0, .int .u64 a2_1, .int .u64 a2_2] 67 (0, 0)) (by (with_reducible repeat (first | refine blk_drewN ?_ _ | refine blk_drew ?_ | refine blk_alloc ?_ _)); exact BK171.out) hb)
     have n2_ := aM' (blk_below (g := gb172) (o := .cells #[.string (⟨#[]⟩ : ByteArray), .int .u64 0, .int .u64 0] 67 (0, 0)) (by (with_reducible repeat (first | refine blk_drewN ?_ _ | refine blk_drew ?_ | refine blk_alloc ?_ _)); exact BK172.out) hb)
     have n3_ := aM' (blk_below (g := gb178) (o := .cells #[.int .u64 t175, .int .u64 t176] 24 (0, 0)) (by (with_reducible repeat (first | refine blk_drewN ?_ _ | refine blk_drew ?_ | refine blk_alloc ?_ _)); exact BK178.out) hb)
     have n4_ := aM' (below_step (by repeat (first | (with_reducible first | exact HB.out | apply below_alloc | apply pw_below_drewN | apply below_drew1 | refine below_set ?_ GE170.out | refine below_set ?_ GE171.out | refine below_set ?_ GE172.out | refine below_set ?_ GE178.out) | exact HB.out)) hb)
     clear BK170
     clear BK171
     clear BK172
     clear BK178
     clear HB
     have BK170 := n0_
     have BK171 := n1_
     have BK172 := n2_
     have BK178 := n3_
     have HB := n4_
     clear n0_ n1_ n2_ n3_ n4_
     (try clear hb)
     (try clear hb2)
     (try clear hk)
     (try clear hi)
     refine hK.out _ _ ⟨(blk_cell BK170.out 0).trans rfl, (blk_cell BK170.out 1).trans rfl, (blk_cell BK170.out 2).trans rfl, (blk_cell BK171.out 0).trans rfl, (blk_cell BK171.out 1).trans rfl, (blk_cell BK171.out 2).trans rfl, (blk_cell BK178.out 0).trans rfl, (blk_cell BK178.out 1).trans rfl⟩ (fun hHeld => ?_)
     clear hK K
     refine norm_ (a' := ?_) ?_ ?_
     rotate_left
     ·
      show Act.put _ (some 36) _ = _
      simp only [Act.put, List.setIfInBounds_toArray, List.set_cons_zero, List.set_cons_succ, i64_w, i32_w]
      rfl
     refine pure_ (i := 6) (N := some 38) (v := ?_) (a' := ?_) #[true, true, true, true, true, true, true, false, false] rfl rfl (any_of HT_.out (by kernel_rfl)) (fun _ _ _ h => h) (Or.inl ⟨by rfl, ?_⟩) ?_ ?_
     rotate_left
     ·
      intro w'
      go_simp
      with_reducible rfl
     rotate_left
     ·
      simp only [Act.put, List.setIfInBounds_toArray, List.set_cons_zero, List.set_cons_succ, i64_w, i32_w]
      rfl
     refine one_ (i := 7) (N := none) #[true, true, true, true, true, true, true, true, false] rfl rfl (one_of HT_.out (by kernel_rfl)) (by decide) (fun K hK => ?_)
     have hs45 : w44.cell? ⟨gb172, 0, none⟩ = some (.string (⟨#[]⟩ : ByteArray)) := (blk_cell BK172.out 0).trans rfl
     have hfs45 := blk_frozen BK172.out 0
     have hns45_0 := NB170_172.out
     have hns45_1 := NB171_172.out
     have hns45_3 := NB178_172.out
     have hms45_0 := NB172_170.out
     have hms45_1 := NB172_171.out
     have hms45_3 := NB172_178.out
     have hs46 : w44.cell? ⟨gb172, 1, none⟩ = some (.int .u64 0) := (blk_cell BK172.out 1).trans rfl
     have hfs46 := blk_frozen BK172.out 1
     have hns46_0 := NB170_172.out
     have hns46_1 := NB171_172.out
     have hns46_3 := NB178_172.out
     have hms46_0 := NB172_170.out
     have hms46_1 := NB172_171.out
     have hms46_3 := NB172_178.out
     have hs47 : w44.cell? ⟨gb172, 2, none⟩ = some (.int .u64 0) := (blk_cell BK172.out 2).trans rfl
     have hfs47 := blk_frozen BK172.out 2
     have hns47_0 := NB170_172.out
     have hns47_1 := NB171_172.out
     have hns47_3 := NB178_172.out
     have hms47_0 := NB172_170.out
     have hms47_1 := NB172_171.out
     have hms47_3 := NB172_178.out
     refine skip_ (w1 := ?_) (by rfl) rfl ?_ ?_
     rotate_left
     ·
      go_simp
      rfl
     refine hK.out _ _ ⟨((cell_far (p := ⟨gb172, _, none⟩) NB170_172.out _).trans (((cell_far (p := ⟨gb172, _, none⟩) NB170_172.out _).trans (((cell_far (p := ⟨gb172, _, none⟩) NB170_172.out _).trans (hHeld.1)))))), ((cell_far (p := ⟨gb172, _, none⟩) NB170_172.out _).trans (((cell_far (p := ⟨gb172, _, none⟩) NB170_172.out _).trans (((cell_far (p := ⟨gb172, _, none⟩) NB170_172.out _).trans (hHeld.2.1)))))), ((cell_far (p := ⟨gb172, _, none⟩) NB170_172.out _).trans (((cell_far (p := ⟨gb172, _, none⟩) NB170_172.out _).trans (((cell_far (p := ⟨gb172, _, none⟩) NB170_172.out _).trans (hHeld.2.2.1)))))), ((cell_far (p := ⟨gb172, _, none⟩) NB171_172.out _).trans (((cell_far (p := ⟨gb172, _, none⟩) NB171_172.out _).trans (((cell_far (p := ⟨gb172, _, none⟩) NB171_172.out _).trans (hHeld.2.2.2.1)))))), ((cell_far (p := ⟨gb172, _, none⟩) NB171_172.out _).trans (((cell_far (p := ⟨gb172, _, none⟩) NB171_172.out _).trans (((cell_far (p := ⟨gb172, _, none⟩) NB171_172.out _).trans (hHeld.2.2.2.2.1)))))), ((cell_far (p := ⟨gb172, _, none⟩) NB171_172.out _).trans (((cell_far (p := ⟨gb172, _, none⟩) NB171_172.out _).trans (((cell_far (p := ⟨gb172, _, none⟩) NB171_172.out _).trans (hHeld.2.2.2.2.2.1)))))), ((cell_far (p := ⟨gb172, _, none⟩) NB178_172.out _).trans (((cell_far (p := ⟨gb172, _, none⟩) NB178_172.out _).trans (((cell_far (p := ⟨gb172, _, none⟩) NB178_172.out _).trans (hHeld.2.2.2.2.2.2.1)))))), ((cell_far (p := ⟨gb172, _, none⟩) NB178_172.out _).trans (((cell_far (p := ⟨gb172, _, none⟩) NB178_172.out _).trans (((cell_far (p := ⟨gb172, _, none⟩) NB178_172.out _).trans (hHeld.2.2.2.2.2.2.2))))))⟩ (fun hHeld => ?_)
     clear hK K
     refine pure_ (i := 8) (N := some 7) (v := ?_) (a' := ?_) #[true, true, true, true, true, true, true, true, true] rfl rfl (any_of HT_.out (by kernel_rfl)) (fun _ _ _ h => h) (Or.inl ⟨by rfl, ?_⟩) ?_ ?_
     rotate_left
     ·
      intro w'
      go_simp
      with_reducible rfl
     rotate_left
     ·
      simp only [Act.put, List.setIfInBounds_toArray, List.set_cons_zero, List.set_cons_succ, i64_w, i32_w]
      rfl
     refine done_ (done_of HT_.out (by kernel_rfl)) ?_
     try go_wp2
     refine bodyPost_ret (results_ct rfl _ _ gb172 67 #[.string t180, .int .u64 t175, .int .u64 t176] (0, 0) _ rfl (by (with_reducible repeat (first | refine blk_drewN ?_ _ | refine blk_drew ?_ | refine blk_alloc ?_ _)); refine blk_put (cs := #[.string t180, .int .u64 t175, .int .u64 0]) ?_ 2 _ rfl; (with_reducible repeat (first | refine blk_drewN ?_ _ | refine blk_drew ?_ | refine blk_alloc ?_ _)); refine blk_put (cs := #[.string t180, .int .u64 0, .int .u64 0]) ?_ 1 _ rfl; (with_reducible repeat (first | refine blk_drewN ?_ _ | refine blk_drew ?_ | refine blk_alloc ?_ _)); refine blk_put (cs := #[.string (⟨#[]⟩ : ByteArray), .int .u64 0, .int .u64 0]) ?_ 0 _ rfl; (with_reducible repeat (first | refine blk_drewN ?_ _ | refine blk_drew ?_ | refine blk_alloc ?_ _)); exact BK172.out) Tryz.underlying67 rfl (by kernel_rfl)) rfl ?_
     exact ⟨by first | rfl | (simp [errW_none, errW_some] <;> rfl) | (simp [*, errW_none, errW_some] <;> rfl), by repeat (first | (with_reducible first | exact HB.out | apply below_alloc | apply pw_below_drewN | apply below_drew1 | refine below_set ?_ GE170.out | refine below_set ?_ GE171.out | refine below_set ?_ GE172.out | refine below_set ?_ GE178.out) | exact HB.out)⟩
    ·
     rw [if_neg c27] at H
     have c27b0 : (t177 == 0) = false := beq_eq_false_iff_ne.mpr c27
     have c27b1 : (t177 != 0) = true := bne_iff_ne.mpr c27
     simp only [Option.some.injEq, Prod.mk.injEq] at H
     obtain ⟨rfl, rfl, rfl, rfl⟩ := H
     have hnb48 := NB170_171.out
     have hnc48 := NB171_170.out
     have hnb49 := NB170_172.out
     have hnc49 := NB172_170.out
     have hcz50_0 : wc.cell? ⟨gb170, 0, none⟩ = some (.string a1_0) := (blk_cell BK170.out 0).trans rfl
     have hcz50_1 : wc.cell? ⟨gb170, 1, none⟩ = some (.int .u64 a1_1) := (blk_cell BK170.out 1).trans rfl
     have hcz50_2 : wc.cell? ⟨gb170, 2, none⟩ = some (.int .u64 a1_2) := (blk_cell BK170.out 2).trans rfl
     have hfz50_0 := blk_frozen BK170.out 0
     have hfz50_1 := blk_frozen BK170.out 1
     have hfz50_2 := blk_frozen BK170.out 2
     have hnb51 := NB171_172.out
     have hnc51 := NB172_171.out
     have hcz52_0 : wc.cell? ⟨gb171, 0, none⟩ = some (.string a2_0) := (blk_cell BK171.out 0).trans rfl
     have hcz52_1 : wc.cell? ⟨gb171, 1, none⟩ = some (.int .u64 a2_1) := (blk_cell BK171.out 1).trans rfl
     have hcz52_2 : wc.cell? ⟨gb171, 2, none⟩ = some (.int .u64 a2_2) := (blk_cell BK171.out 2).trans rfl
     have hfz52_0 := blk_frozen BK171.out 0
     have hfz52_1 := blk_frozen BK171.out 1
     have hfz52_2 := blk_frozen BK171.out 2
     go_wp2_with (first | ((with_reducible refine gate_callee (f := 70) rfl ?_); refine goesL_ (some 26) rfl rfl Tryz.func70 (by kernel_rfl) rfl #[.agg #[.int .u64 a1_1, .int .u64 a1_2], .agg #[.int .u64 a2_1, .int .u64 a2_2]] rfl (by (try simp only [List.map_toArray, List.map_cons, List.map_nil]); first | done | rfl | (simp only [List.length_drop, List.length_take]; rfl)) ?_; (with_reducible refine (u128_Add.calls a1_1 a1_2 a2_1 a2_2 t175 t176 t177 _ A26.out).mono ?_); rintro e w53 ⟨rfl, hb⟩; refine ⟨_, rfl, ?_⟩; have n0_ := aM' (blk_below (g := gb170) (o := .cells #[.string a1_0, .int .u64 a1_1, .int .u64 a1_2] 67 (0, 0)) (by (with_reducible repeat (first | refine blk_drewN ?_ _ | refine blk_drew ?_ | refine blk_alloc ?_ _)); exact BK170.out) hb); have n1_ := aM' (blk_below (g := gb171) (o := .cells #[.string a2_0, .int .u64 a2_1, .int .u64 a2_2] 67 (0, 0)) (by (with_reducible repeat (first | refine blk_drewN ?_ _ | refine blk_drew ?_ | refine blk_alloc ?_ _)); exact BK171.out) hb); have n2_ := aM' (blk_below (g := gb172) (o := .cells #[.string (⟨#[]⟩ : ByteArray), .int .u64 0, .int .u64 0] 67 (0, 0)) (by (with_reducible repeat (first | refine blk_drewN ?_ _ | refine blk_drew ?_ | refine blk_alloc ?_ _)); exact BK172.out) hb); have n3_ := aM' (below_step (by repeat (first | (with_reducible first | exact HB.out | apply below_alloc | apply pw_below_drewN | apply below_drew1 | refine below_set ?_ GE170.out | refine below_set ?_ GE171.out | refine below_set ?_ GE172.out) | exact HB.out)) hb); clear BK170; clear BK171; clear BK172; clear HB; have BK170 := n0_; have BK171 := n1_; have BK172 := n2_; have HB := n3_; clear n0_ n1_ n2_ n3_; (try clear hb); (try clear hb2); (try clear hk); (try clear hi)) | ((with_reducible refine gate_dst (N := 8) rfl ?_); refine box_event ?hg (N := 8) ?hd (cs := #[.int .u64 0, .int .u64 0]) (t := 24) ?hr ?_; (case hd => rfl); (case hg => rfl); (case hr => first | (go_simp; done) | (go_simp; rfl)); intro gb178 hg w54 hbox hb; have n0_ := aM' (blk_below (g := gb170) (o := .cells #[.string a1_0, .int .u64 a1_1, .int .u64 a1_2] 67 (0, 0)) (by (with_reducible repeat (first | refine blk_drewN ?_ _ | refine blk_drew ?_ | refine blk_alloc ?_ _)); exact BK170.out) hb); have n1_ := aM' (blk_below (g := gb171) (o := .cells #[.string a2_0, .int .u64 a2_1, .int .u64 a2_2] 67 (0, 0)) (by (with_reducible repeat (first | refine blk_drewN ?_ _ | refine blk_drew ?_ | refine blk_alloc ?_ _)); exact BK171.out) hb); have n2_ := aM' (blk_below (g := gb172) (o := .cells #[.string (⟨#[]⟩ : ByteArray), .int .u64 0, .int .u64 0] 67 (0, 0)) (by (with_reducible repeat (first | refine blk_drewN ?_ _ | refine blk_drew ?_ | refine blk_alloc ?_ _)); exact BK172.out) hb); have n3_ := aM' (below_step (by repeat (first | (with_reducible first | exact HB.out | apply below_alloc | apply pw_below_drewN | apply below_drew1 | refine below_set ?_ GE170.out | refine below_set ?_ GE171.out | refine below_set ?_ GE172.out) | exact HB.out)) hb); have n4_ := aM' (hbox); have n5_ := aM' ((by rw [hg]; exact (below_size (by repeat (first | (with_reducible first | exact HB.out | apply below_alloc | apply pw_below_drewN | apply below_drew1 | refine below_set ?_ GE170.out | refine below_set ?_ GE171.out | refine below_set ?_ GE172.out) | exact HB.out))) : w.heap.size ≤ gb178)); have n6_ := aM' ((by rw [hg]; exact (below_size (by repeat (first | (with_reducible first | exact HB.out | apply below_alloc | apply pw_below_drewN | apply below_drew1 | refine below_set ?_ GE170.out | refine below_set ?_ GE171.out | refine below_set ?_ GE172.out) | exact HB.out))) : w.heap.size ≤ gb178)); have n7_ := aM' ((by rw [hg]; exact Nat.ne_of_lt (blk_lt (g := gb170) (o := .cells #[.string a1_0, .int .u64 a1_1, .int .u64 a1_2] 67 (0, 0)) (by (with_reducible repeat (first | refine blk_drewN ?_ _ | refine blk_drew ?_ | refine blk_alloc ?_ _)); exact BK170.out)) : gb170 ≠ gb178)); have n8_ := aM' ((by rw [hg]; exact Nat.ne_of_gt (blk_lt (g := gb170) (o := .cells #[.string a1_0, .int .u64 a1_1, .int .u64 a1_2] 67 (0, 0)) (by (with_reducible repeat (first | refine blk_drewN ?_ _ | refine blk_drew ?_ | refine blk_alloc ?_ _)); exact BK170.out)) : gb178 ≠ gb170)); have n9_ := aM' ((by rw [hg]; exact Nat.ne_of_lt (blk_lt (g := gb171) (o := .cells #[.string a2_0, .int .u64 a2_1, .int .u64 a2_2] 67 (0, 0)) (by (with_reducible repeat (first | refine blk_drewN ?_ _ | refine blk_drew ?_ | refine blk_alloc ?_ _)); exact BK171.out)) : gb171 ≠ gb178)); have n10_ := aM' ((by rw [hg]; exact Nat.ne_of_gt (blk_lt (g := gb171) (o := .cells #[.string a2_0, .int .u64 a2_1, .int .u64 a2_2] 67 (0, 0)) (by (with_reducible repeat (first | refine blk_drewN ?_ _ | refine blk_drew ?_ | refine blk_alloc ?_ _)); exact BK171.out)) : gb178 ≠ gb171)); have n11_ := aM' ((by rw [hg]; exact Nat.ne_of_lt (blk_lt (g := gb172) (o := .cells #[.string (⟨#[]⟩ : ByteArray), .int .u64 0, .int .u64 0] 67 (0, 0)) (by (with_reducible repeat (first | refine blk_drewN ?_ _ | refine blk_drew ?_ | refine blk_alloc ?_ _)); exact BK172.out)) : gb172 ≠ gb178)); have n12_ := aM' ((by rw [hg]; exact Nat.ne_of_gt (blk_lt (g := gb172) (o := .cells #[.string (⟨#[]⟩ : ByteArray), .int .u64 0, .int .u64 0] 67 (0, 0)) (by (with_reducible repeat (first | refine blk_drewN ?_ _ | refine blk_drew ?_ | refine blk_alloc ?_ _)); exact BK172.out)) : gb178 ≠ gb172)); clear BK170; clear BK171; clear BK172; clear HB; have BK170 := n0_; have BK171 := n1_; have BK172 := n2_; have HB := n3_; have BK178 := n4_; have GW178 := n5_; have GE178 := n6_; have NB170_178 := n7_; have NB178_170 := n8_; have NB171_178 := n9_; have NB178_171 := n10_; have NB172_178 := n11_; have NB178_172 := n12_; clear n0_ n1_ n2_ n3_ n4_ n5_ n6_ n7_ n8_ n9_ n10_ n11_ n12_; clear hb hbox hg; have hnb55 := NB178_170.out; have hnc55 := NB170_178.out; have hnb56 := NB178_171.out; have hnc56 := NB171_178.out; have hnb57 := NB178_172.out; have hnc57 := NB172_178.out; have hcz58_0 : w54.cell? ⟨gb178, 0, none⟩ = some (.int .u64 0) := (blk_cell BK178.out 0).trans rfl; have hcz58_1 : w54.cell? ⟨gb178, 1, none⟩ = some (.int .u64 0) := (blk_cell BK178.out 1).trans rfl; have hfz58_0 := blk_frozen BK178.out 0; have hfz58_1 := blk_frozen BK178.out 1; have hcz59_0 : w54.cell? ⟨gb172, 0, none⟩ = some (.string (⟨#[]⟩ : ByteArray)) := (blk_cell BK172.out 0).trans rfl; have hcz59_1 : w54.cell? ⟨gb172, 1, none⟩ = some (.int .u64 0) := (blk_cell BK172.out 1).trans rfl; have hcz59_2 : w54.cell? ⟨gb172, 2, none⟩ = some (.int .u64 0) := (blk_cell BK172.out 2).trans rfl; have hfz59_0 := blk_frozen BK172.out 0; have hfz59_1 := blk_frozen BK172.out 1; have hfz59_2 := blk_frozen BK172.out 2))
     refine bodyPost_ret (results_ct rfl _ _ gb172 67 #[.string (⟨#[]⟩ : ByteArray), .int .u64 0, .int .u64 0] (0, 0) _ rfl (by (with_reducible repeat (first | refine blk_drewN ?_ _ | refine blk_drew ?_ | refine blk_alloc ?_ _)); refine blk_put (cs := #[.string (⟨#[]⟩ : ByteArray), .int .u64 0, .int .u64 0]) ?_ 2 _ rfl; (with_reducible repeat (first | refine blk_drewN ?_ _ | refine blk_drew ?_ | refine blk_alloc ?_ _)); refine blk_put (cs := #[.string (⟨#[]⟩ : ByteArray), .int .u64 0, .int .u64 0]) ?_ 1 _ rfl; (with_reducible repeat (first | refine blk_drewN ?_ _ | refine blk_drew ?_ | refine blk_alloc ?_ _)); refine blk_put (cs := #[.string (⟨#[]⟩ : ByteArray), .int .u64 0, .int .u64 0]) ?_ 0 _ rfl; (with_reducible repeat (first | refine blk_drewN ?_ _ | refine blk_drew ?_ | refine blk_alloc ?_ _)); refine blk_far ?_ NB172_178.out _; (with_reducible repeat (first | refine blk_drewN ?_ _ | refine blk_drew ?_ | refine blk_alloc ?_ _)); refine blk_far ?_ NB172_178.out _; (with_reducible repeat (first | refine blk_drewN ?_ _ | refine blk_drew ?_ | refine blk_alloc ?_ _)); exact BK172.out) Tryz.underlying67 rfl (by kernel_rfl)) rfl ?_
     exact ⟨by first | rfl | (simp [errW_none, errW_some] <;> rfl) | (simp [*, errW_none, errW_some] <;> rfl), by repeat (first | (with_reducible first | exact HB.out | apply below_alloc | apply pw_below_drewN | apply below_drew1 | refine below_set ?_ GE170.out | refine below_set ?_ GE171.out | refine below_set ?_ GE172.out | refine below_set ?_ GE178.out) | exact HB.out)⟩
end Go.Proofs.YtlmmpncdemblbaaGreatDoor.P
namespace Go.Proofs.YtlmmpncdemblbaaGreatDoor.P
open Go.RowKit Go.Proofs.YtlmmpncdemblbaaGreatDoorW.PrintWords Go.Proofs.YtlmmpncdemblbaaGreatDoorW.PrintLast Go.Proofs.YtlmmpncdemblbaaGreatDoorW.PrintMore
set_option linter.unusedVariables false
set_option linter.unusedSimpArgs false
set_option linter.unnecessarySimpa false
theorem ext_ext (t : ByteArray) (a i j : Nat) (h : a + j ≤ t.size) : (t.extract a t.size).extract i j = t.extract (a + i) (a + j) := by
 rw [ByteArray.extract_extract]
 congr 1
 omega
theorem chainI_front (t : ByteArray) (s : S8) : ∀ n, 64 * (n + 1) ≤ t.size → chainI s t (n + 1) = chainI (nextI s (t.extract 0 64)) (t.extract 64 t.size) n
 | 0, h => rfl
 | n + 1, h => by
  rw [chainI, chainI_front t s n (by omega), chainI, ext_ext t 64 _ _ (by omega), show 64 + 64 * n = 64 * (n + 1) by omega, show 64 + (64 * n + 64) = 64 * (n + 1) + 64 by omega]
theorem eat_blksN : ∀ (n : Nat) (t : ByteArray), t.size / 64 = n → ∀ r : Run, (blksN n t).foldl eat r = ⟨chainI r.s t n, t.extract (64 * n) t.size, r.n⟩
 | 0, t, h, r => by
  simp only [blksN, List.foldl_cons, List.foldl_nil, eat, chainI]
  simp
 | n + 1, t, h, r => by
  have h64 : 64 * (n + 1) ≤ t.size := by omega
  have hs : (t.extract 64 t.size).size = t.size - 64 := by rw [ByteArray.size_extract]; omega
  rw [blksN, List.foldl_cons, eat_blksN n _ (by rw [hs]; omega)]
  simp only [eat, if_true]
  rw [chainI_front t r.s n h64, hs, ext_ext t 64 _ _ (by omega), show 64 + 64 * n = 64 * (n + 1) by omega, show 64 + (t.size - 64) = t.size by omega]
def ran (t : ByteArray) : Run := ⟨chainI firstI t (t.size / 64), t.extract (64 * (t.size / 64)) t.size, (t.size : Int)⟩
theorem chainI_append (s : S8) (t u : ByteArray) : ∀ n, 64 * n ≤ t.size → chainI s (t ++ u) n = chainI s t n
 | 0, _ => rfl
 | n + 1, h => by
  rw [chainI, chainI, chainI_append s t u n (by omega), ByteArray.extract_append]
  have : u.extract (64 * n - t.size) (64 * n + 64 - t.size) = ByteArray.empty := by
   rw [show 64 * n - t.size = 0 by omega, show 64 * n + 64 - t.size = 0 by omega]; simp
  rw [this, ByteArray.append_empty]
theorem chainI_plus (s : S8) (t : ByteArray) (a : Nat) : ∀ n, 64 * (a + n) ≤ t.size → chainI (chainI s t a) (t.extract (64 * a) t.size) n = chainI s t (a + n)
 | 0, _ => rfl
 | n + 1, h => by
  rw [chainI, chainI_plus s t a n (by omega), ← Nat.add_assoc, chainI, ext_ext t (64 * a) _ _ (by omega), show 64 * a + 64 * n = 64 * (a + n) by omega, show 64 * a + (64 * n + 64) = 64 * (a + n) + 64 by omega]
theorem ext_over (t : ByteArray) (i j : Nat) (h : t.size ≤ j) : t.extract i j = t.extract i t.size := by
 apply ByteArray.ext
 rw [ByteArray.data_extract, ByteArray.data_extract]
 rcases Nat.lt_or_eq_of_le h with h | h
 ·
  exact Array.extract_of_size_lt h
 ·
  rw [← h]
theorem ext_cat (t u : ByteArray) (a : Nat) (h : a ≤ t.size) : t.extract a t.size ++ u = (t ++ u).extract a (t ++ u).size := by
 rw [ByteArray.extract_append, ByteArray.size_append, ext_over t a (t.size + u.size) (by omega), show a - t.size = 0 by omega, show t.size + u.size - t.size = u.size by omega]
 rw [show u.extract 0 u.size = u by simp]
theorem takeI_ran (t u : ByteArray) (h : t.size + u.size < 18446744073709551616) : takeI (ran t) u = ran (t ++ u) := by
 have ha : 64 * (t.size / 64) ≤ t.size := by omega
 have hs : (t ++ u).size = t.size + u.size := ByteArray.size_append
 have hc := ext_cat t u (64 * (t.size / 64)) ha
 have hz : ((t ++ u).extract (64 * (t.size / 64)) (t ++ u).size).size = t.size + u.size - 64 * (t.size / 64) := by rw [ByteArray.size_extract, hs]; omega
 unfold takeI ran
 rw [hc, blks, eat_blksN _ _ rfl]
 rw [← chainI_append firstI t u _ ha, chainI_plus firstI (t ++ u) (t.size / 64) _ (by rw [hz, hs]; omega), hz, hs, ← hs, ext_ext _ _ _ _ (by rw [hs]; omega), hs]
 have e1 : t.size / 64 + (t.size + u.size - 64 * (t.size / 64)) / 64 = (t.size + u.size) / 64 := by omega
 have e2 : 64 * (t.size / 64) + 64 * ((t.size + u.size - 64 * (t.size / 64)) / 64) = 64 * ((t.size + u.size) / 64) := by omega
 have e3 : 64 * (t.size / 64) + (t.size + u.size - 64 * (t.size / 64)) = t.size + u.size := by omega
 have e4 : IntKind.u64.wrap ((t.size : Int) + (u.size : Int)) = ((t.size + u.size : Nat) : Int) := by rw [IntKind.wrap_u64]; omega
 rw [e1, e2, e3, e4]
theorem newRun_ran : newRun = ran ByteArray.empty := rfl
theorem ran_sum (t : ByteArray) (h : t.size < 1000000000000) : (ran t).sum = refSumI t := by
 have hp : (padI (t.size : Int)).size ≤ 72 := by rw [padI_size]; unfold padZ; omega
 rw [Run.sum, show (ran t).n = (t.size : Int) from rfl, takeI_ran t _ (by omega)]
 rfl
theorem sumI_ref (t : ByteArray) (h : t.size < 1000000000000) : sumI t = refSumI t := by
 have e : takeI newRun t = ran t := by
  rw [newRun_ran, takeI_ran _ _ (by show 0 + t.size < _; omega), ByteArray.empty_append]
 rw [sumI, e, ran_sum t h]
end Go.Proofs.YtlmmpncdemblbaaGreatDoor.P
namespace Go.Proofs.YtlmmpncdemblbaaGreatDoor.P
open Go.RowKit Go.Proofs.YtlmmpncdemblbaaGreatDoorW.PrintWords Go.Proofs.YtlmmpncdemblbaaGreatDoorW.PrintLast Go.Proofs.YtlmmpncdemblbaaGreatDoorW.PrintMore
set_option linter.unusedVariables false
set_option linter.unusedSimpArgs false
set_option linter.unnecessarySimpa false
structure OkU (u : SU128) : Prop where
 h0 : 0 ≤ u.f0 ∧ u.f0 < 18446744073709551616
 h1 : 0 ≤ u.f1 ∧ u.f1 < 18446744073709551616
theorem tagNodeText_eq (l r : SNode) (hl : l.f0.size ≤ 1000000) (hr : r.f0.size ≤ 1000000) : tag_NodeText.f l.f0 l.f1.f0 l.f1.f1 r.f0 r.f1.f0 r.f1.f1 = some (nodeText l r) := by
 unfold tag_NodeText.f
 rw [if_pos ⟨hl, hr⟩]
theorem refNodeText_ev (l r : SNode) (hl : l.f0.size ≤ 1000000) (hr : r.f0.size ≤ 1000000) (ul : OkU l.f1) (ur : OkU r.f1) : Ev (fun k => paymasterref07_NodeText.f k l.f0 l.f1.f0 l.f1.f1 r.f0 r.f1.f0 r.f1.f1) (nodeText l r) := by
 have h1 : ByteArray.size (⟨#[1]⟩ : ByteArray) = 1 := rfl
 unfold paymasterref07_NodeText.f
 refine Ev.congr (fun k => by rw [if_pos (by omega)]) (Ev.bind (refBytes_ev _ _ ul.h0 ul.h1) ?_)
 refine Ev.congr (fun k => by rw [if_pos (by simp only [ByteArray.size_append, u128B_size, h1]; omega), if_pos (by simp only [ByteArray.size_append, u128B_size, h1]; omega)]) (Ev.bind (refBytes_ev _ _ ur.h0 ur.h1) ?_)
 exact Ev.congr (fun k => by rw [if_pos (by simp only [ByteArray.size_append, u128B_size, h1]; omega)]; rfl) (Ev.now _)
def dgI (w : Int) (t : ByteArray) : ByteArray := (refSumI t).extract 0 w.toNat
theorem refSumI_len (t : ByteArray) : (refSumI t).size = 32 := by
 rw [refSumI, digestI, strOfNums_size, digL_length]
theorem tagDigest_eq (w : Int) (t : ByteArray) (h0 : 1 ≤ w) (h1 : w ≤ 32) (ht : t.size ≤ 100000000) : tag_Digest.f w t = some (dgI w t) := by
 have e : sha_Sum.f t = some (refSumI t) := by rw [sha_Sum.f, if_pos (by omega), sumI_ref t (by omega)]
 unfold tag_Digest.f tag_MayWidth.f
 rw [if_pos h0]
 simp only [Option.bind_some, decide_eq_true h1, if_true, e]
 rw [if_pos (by omega), if_pos (by rw [refSumI_len]; omega)]
 rfl
theorem refDigest_eq (w : Int) (t : ByteArray) (h0 : 1 ≤ w) (h1 : w ≤ 32) (ht : t.size ≤ 100000000) : paymasterref07_Digest.f w t = some (dgI w t) := by
 have e : ref05_Sum.f t = some (refSumI t) := by rw [ref05_Sum.f, if_pos (by omega)]
 unfold paymasterref07_Digest.f paymasterref07_MayWidth.f
 rw [if_pos h0]
 simp only [Option.bind_some, decide_eq_true h1, if_true, e]
 rw [if_pos (by omega), if_pos (by rw [refSumI_len]; omega)]
 rfl
def joinI (w : Int) (l r : SNode) : ByteArray × Int × Int × Int :=
 if nodeOf w l = true ∧ nodeOf w r = true then
  (if (addI128 l.f1.f0 l.f1.f1 r.f1.f0 r.f1.f1).2.2 = 0 then (dgI w (nodeText l r), (addI128 l.f1.f0 l.f1.f1 r.f1.f0 r.f1.f1).1, (addI128 l.f1.f0 l.f1.f1 r.f1.f0 r.f1.f1).2.1, 0) else (⟨#[]⟩, 0, 0, 10))
 else (⟨#[]⟩, 0, 0, 70)
theorem nodeOf_w {w : Int} {n : SNode} (h : nodeOf w n = true) : 1 ≤ w ∧ w ≤ 32 ∧ (n.f0.size : Int) = w := by
 simp only [nodeOf, Bool.and_eq_true, decide_eq_true_eq, beq_iff_eq] at h
 exact h
theorem join_ev (w : Int) (l r : SNode) (ul : OkU l.f1) (ur : OkU r.f1) : Ev (fun k => node_Join.f k w l.f0 l.f1.f0 l.f1.f1 r.f0 r.f1.f0 r.f1.f1) (joinI w l r) := by
 unfold node_Join.f joinI
 simp only [node_Of_eq, Option.bind_some]
 cases h1 : nodeOf w l with
 | false =>
  rw [if_neg (show ¬(false = true ∧ nodeOf w r = true) by simp)]
  exact Ev.congr (fun k => by rw [if_neg (show ¬ false = true by simp)]) (Ev.step (f := fun _ => some (⟨#[]⟩, 0, 0, 70)) (fun k => by rw [node_Join.j0, if_pos rfl]) (Ev.now _))
 | true =>
  refine Ev.congr (fun k => by rw [if_pos rfl]) ?_
  cases h2 : nodeOf w r with
  | false =>
   rw [if_neg (by simp)]
   exact Ev.step (f := fun _ => some (⟨#[]⟩, 0, 0, 70)) (fun k => by rw [node_Join.j0, if_pos (by rfl)]) (Ev.now _)
  | true =>
   rw [if_pos (by simp)]
   obtain ⟨w1, w2, w3⟩ := nodeOf_w h1
   obtain ⟨_, _, w4⟩ := nodeOf_w h2
   refine Ev.step (f := fun _ => some _) (fun k => ?_) (Ev.now _)
   rw [node_Join.j0, if_neg (by decide), u128Add_eq _ _ _ _ ul.h0 ul.h1 ur.h0 ur.h1]
   simp only [Option.bind_some, tagNodeText_eq l r (by omega) (by omega), tagDigest_eq w (nodeText l r) w1 w2 (by rw [nodeText_size]; omega)]
   split <;> rfl
theorem refJoin_ev (w : Int) (l r : SNode) (ul : OkU l.f1) (ur : OkU r.f1) : Ev (fun k => paymasterref14_Join.f k w l.f0 l.f1.f0 l.f1.f1 r.f0 r.f1.f0 r.f1.f1) (joinI w l r) := by
 unfold paymasterref14_Join.f joinI
 simp only [ref14Of_eq, Option.bind_some]
 cases h1 : nodeOf w l with
 | false =>
  rw [if_neg (show ¬(false = true ∧ nodeOf w r = true) by simp)]
  exact Ev.congr (fun k => by rw [if_neg (show ¬ false = true by simp)]) (Ev.step (f := fun _ => some (⟨#[]⟩, 0, 0, 70)) (fun k => by rw [paymasterref14_Join.j0, if_pos rfl]) (Ev.now _))
 | true =>
  refine Ev.congr (fun k => by rw [if_pos rfl]) ?_
  cases h2 : nodeOf w r with
  | false =>
   rw [if_neg (by simp)]
   exact Ev.step (f := fun _ => some (⟨#[]⟩, 0, 0, 70)) (fun k => by rw [paymasterref14_Join.j0, if_pos (by rfl)]) (Ev.now _)
  | true =>
   rw [if_pos (by simp)]
   obtain ⟨w1, w2, w3⟩ := nodeOf_w h1
   obtain ⟨_, _, w4⟩ := nodeOf_w h2
   refine Ev.step (f := fun k => _) (fun k => by rw [paymasterref14_Join.j0, if_neg (by decide)]) ?_
   refine Ev.bind (refAdd_ev _ _ _ _ ul.h0 ul.h1 ur.h0 ur.h1) ?_
   split
   ·
    refine Ev.bind (refNodeText_ev l r (by omega) (by omega) ul ur) ?_
    simp only [refDigest_eq w (nodeText l r) w1 w2 (by rw [nodeText_size]; omega), Option.bind_some]
    exact Ev.now _
   ·
    exact Ev.now _
end Go.Proofs.YtlmmpncdemblbaaGreatDoor.P
namespace Go.Proofs.YtlmmpncdemblbaaGreatDoor.P
open Go.RowKit Go.Proofs.YtlmmpncdemblbaaGreatDoorW.PrintWords Go.Proofs.YtlmmpncdemblbaaGreatDoorW.PrintLast Go.Proofs.YtlmmpncdemblbaaGreatDoorW.PrintMore
set_option linter.unusedVariables false
set_option linter.unusedSimpArgs false
set_option linter.unnecessarySimpa false
theorem refMayLeaf_ev (l : SLeaf) (hid : l.f1.size ≤ 1000000) : Ev (fun k => paymasterref07_MayLeaf.f k l.f0 l.f1 l.f2 l.f3.f0 l.f3.f1) (mayLeafI l) := by
 unfold paymasterref07_MayLeaf.f mayLeafI
 have hd : ∀ b : Bool, decide ((l.f2.size : Int) ≤ 32) = decide (¬ 32 < l.f2.size) := fun _ => decide_eq_decide.2 (by omega)
 cases l.f0 with
 | true =>
  simp only [if_true]
  refine Ev.some_ (fun k => ?_)
  by_cases h2 : l.f1.toList = []
  ·
   rw [if_pos h2]
   cases hb : (l.f3.f0 == 0) <;> cases hc : (l.f3.f1 == 0)
   ·
    rw [if_pos (by simp)]; simp [h2]
   ·
    rw [if_pos (by simp)]; simp [h2]
   ·
    rw [if_pos (by simp)]; simp [h2]
   ·
    rw [if_neg (by simp), hd true]; simp [h2]; by_cases h1 : 32 < l.f2.size <;> simp [h1] <;> omega
  ·
   rw [if_neg h2]; simp [h2]
 | false =>
  simp only [Bool.false_eq_true, if_false]
  refine Ev.bind (refMayId_ev l.f1 hid) ?_
  refine Ev.some_ (fun k => ?_)
  cases mayIdI l.f1 with
  | true => rw [if_pos rfl, hd true]; by_cases h1 : 32 < l.f2.size <;> simp [h1] <;> omega
  | false => simp
theorem tagLeafText_eq (l : SLeaf) (hid : l.f1.size ≤ 1000000) (hsa : l.f2.size ≤ 1000000) : tag_LeafText.f l.f0 l.f1 l.f2 l.f3.f0 l.f3.f1 = some (leafTextI l) := by
 unfold tag_LeafText.f
 rw [if_pos ⟨hid, hsa⟩]
theorem strOfNums_cons (x : Int) (l : List Int) : strOfNums (x :: l) = strOfNums [x] ++ strOfNums l := by
 apply ByteArray.ext
 simp [strOfNums]
theorem refLeafText_ev (l : SLeaf) (hid : l.f1.size ≤ 1000000) (hsa : l.f2.size ≤ 1000000) (ub : OkU l.f3) : Ev (fun k => paymasterref07_LeafText.f k l.f0 l.f1 l.f2 l.f3.f0 l.f3.f1) (leafTextI l) := by
 unfold paymasterref07_LeafText.f leafTextI
 have z : ∀ x : Int, (strOfNums [x]).size = 1 := fun x => by rw [strOfNums_size]; rfl
 have z2 : ∀ x y : Int, (strOfNums [x, y]).size = 2 := fun x y => by rw [strOfNums_size]; rfl
 refine Ev.bind (refMayLeaf_ev l hid) ?_
 cases mayLeafI l with
 | false => exact Ev.some_ (fun k => by simp)
 | true =>
  simp only [Option.bind_some, if_true]
  refine Ev.congr (fun k => by rw [if_pos (by rw [z]; omega)]) ?_
  cases l.f0 with
  | true =>
   simp only [if_true]
   refine Ev.some_ (fun k => ?_)
   rw [if_pos (by simp only [ByteArray.size_append, z]; omega)]
   rfl
  | false =>
   simp only [Bool.false_eq_true, if_false]
   refine Ev.congr (fun k => by rw [if_pos (by rw [z2]; omega), if_pos (by simp only [ByteArray.size_append, z, z2]; omega)]) ?_
   refine Ev.bind (refBytes_ev _ _ ub.h0 ub.h1) ?_
   refine Ev.some_ (fun k => ?_)
   rw [if_pos (by simp only [ByteArray.size_append, z, z2, u128B_size]; omega), strOfNums_cons 0]
   simp only [szI, ByteArray.append_assoc]
def leafNodeI (w : Int) (l : SLeaf) : SNode := if (1 ≤ w ∧ w ≤ 32) ∧ mayLeafI l = true then ⟨dgI w (leafTextI l), l.f3⟩ else ⟨⟨#[]⟩, ⟨0, 0⟩⟩
theorem leafTextI_size (l : SLeaf) (hid : l.f1.size ≤ 1000000) (hsa : l.f2.size ≤ 1000000) : (leafTextI l).size ≤ 3000000 := by
 have z : ∀ x : Int, (strOfNums [x]).size = 1 := fun x => by rw [strOfNums_size]; rfl
 unfold leafTextI
 split
 ·
  split
  ·
   simp only [ByteArray.size_append, z, szI_size]; omega
  ·
   simp only [ByteArray.size_append, z, szI_size, u128B_size]; omega
 ·
  decide
abbrev nodeT (n : SNode) : ByteArray × Int × Int := (n.f0, n.f1.f0, n.f1.f1)
theorem tagLeafNode_ev (w : Int) (l : SLeaf) (hid : l.f1.size ≤ 1000000) (hsa : l.f2.size ≤ 1000000) : Ev (fun k => tag_LeafNode.f k w l.f0 l.f1 l.f2 l.f3.f0 l.f3.f1) (nodeT (leafNodeI w l)) := by
 unfold tag_LeafNode.f tag_MayWidth.f leafNodeI
 rw [tagMayLeaf_eq l hid]
 have hj : ∀ b : Bool, b = true → Ev (fun k => tag_LeafNode.j0 k w b l.f0 l.f1 l.f2 l.f3.f0 l.f3.f1) ((⟨#[]⟩ : ByteArray), 0, 0) := fun b hb => by
  subst hb; exact Ev.step (f := fun _ => some ((⟨#[]⟩ : ByteArray), (0 : Int), (0 : Int))) (fun k => by rw [tag_LeafNode.j0, if_pos rfl]) (Ev.now _)
 by_cases h1 : w ≥ 1
 ·
  by_cases h2 : w ≤ 32
  ·
   simp only [if_pos h1, decide_eq_true h2, Option.bind_some, if_true]
   cases hm : mayLeafI l with
   | false => rw [if_neg (by simp)]; exact hj _ rfl
   | true =>
    rw [if_pos ⟨⟨h1, h2⟩, rfl⟩]
    refine Ev.step (f := fun _ => some _) (fun k => ?_) (Ev.now _)
    rw [tag_LeafNode.j0, if_neg (by decide), tagLeafText_eq l hid hsa]
    simp only [Option.bind_some, tagDigest_eq w (leafTextI l) h1 h2 (by have := leafTextI_size l hid hsa; omega)]
  ·
   simp only [if_pos h1, decide_eq_false h2, Option.bind_some]
   rw [if_neg (fun h => h2 h.1.2)]; exact hj _ rfl
 ·
  simp only [if_neg h1, Option.bind_some]
  rw [if_neg (fun h => h1 h.1.1)]; exact hj _ rfl
theorem refLeafNode_ev (w : Int) (l : SLeaf) (hid : l.f1.size ≤ 1000000) (hsa : l.f2.size ≤ 1000000) (ub : OkU l.f3) : Ev (fun k => paymasterref07_LeafNode.f k w l.f0 l.f1 l.f2 l.f3.f0 l.f3.f1) (nodeT (leafNodeI w l)) := by
 unfold paymasterref07_LeafNode.f paymasterref07_MayWidth.f leafNodeI
 have hj : ∀ b : Bool, b = true → Ev (fun k => paymasterref07_LeafNode.j0 k w b l.f0 l.f1 l.f2 l.f3.f0 l.f3.f1) ((⟨#[]⟩ : ByteArray), 0, 0) := fun b hb => by
  subst hb; exact Ev.step (f := fun _ => some ((⟨#[]⟩ : ByteArray), (0 : Int), (0 : Int))) (fun k => by rw [paymasterref07_LeafNode.j0, if_pos rfl]) (Ev.now _)
 by_cases h1 : w ≥ 1
 ·
  by_cases h2 : w ≤ 32
  ·
   simp only [if_pos h1, decide_eq_true h2, Option.bind_some, if_true]
   refine Ev.bind (refMayLeaf_ev l hid) ?_
   cases hm : mayLeafI l with
   | false => rw [if_neg (by simp)]; exact hj _ rfl
   | true =>
    rw [if_pos ⟨⟨h1, h2⟩, rfl⟩]
    refine Ev.step (f := fun k => (paymasterref07_LeafText.f k l.f0 l.f1 l.f2 l.f3.f0 l.f3.f1).bind fun t278 => (paymasterref07_Digest.f w t278).bind fun t279 => some (t279, l.f3.f0, l.f3.f1)) (fun k => by rw [paymasterref07_LeafNode.j0, if_neg (by decide)]) ?_
    refine Ev.bind (refLeafText_ev l hid hsa ub) ?_
    exact Ev.some_ (fun k => by simp only [Option.bind_some, refDigest_eq w (leafTextI l) h1 h2 (by have := leafTextI_size l hid hsa; omega)])
  ·
   simp only [if_pos h1, decide_eq_false h2, Option.bind_some]
   rw [if_neg (fun h => h2 h.1.2)]; exact hj _ rfl
 ·
  simp only [if_neg h1, Option.bind_some]
  rw [if_neg (fun h => h1 h.1.1)]; exact hj _ rfl
theorem leafNodeI_ok (w : Int) (l : SLeaf) (ub : OkU l.f3) : OkU (leafNodeI w l).f1 := by
 unfold leafNodeI; split
 ·
  exact ub
 ·
  exact ⟨⟨by decide, by decide⟩, ⟨by decide, by decide⟩⟩
end Go.Proofs.YtlmmpncdemblbaaGreatDoor.P
namespace Go.Proofs.YtlmmpncdemblbaaGreatDoor.P
open Go.RowKit Go.Proofs.YtlmmpncdemblbaaGreatDoorW.PrintWords Go.Proofs.YtlmmpncdemblbaaGreatDoorW.PrintLast Go.Proofs.YtlmmpncdemblbaaGreatDoorW.PrintMore
attribute [local go_sem] max2_int min2_int max_two min_two max_three min_three max_four min_four-- for this text's walks alone
set_option linter.unusedVariables false
set_option linter.unusedSimpArgs false
mutual
def paymasterref16_Shape.j0 : Nat → Int → Int → Bool → Int → List (SNode) → Option (Int)
 | 0, _, _, _, _, _ => none
 | k + 1, x0, x1, x13, x146000, x146001 => if x13 = true then (some 120) else (if x0 < 1 then (paymasterref16_Shape.j1 k x0 x1 true x146000 x146001) else (paymasterref16_Shape.j1 k x0 x1 (decide (x0 > 32)) x146000 x146001))
def paymasterref16_Shape.j1 : Nat → Int → Int → Bool → Int → List (SNode) → Option (Int)
 | 0, _, _, _, _, _ => none
 | k + 1, x0, x1, x19, x146000, x146001 => if x19 = true then (some 70) else (paymasterref16_Shape.l0 k x0 x1 0 x146000 x146001)
def paymasterref16_Shape.l0 : Nat → Int → Int → Int → Int → List (SNode) → Option (Int)
 | 0, _, _, _, _, _ => none
 | k + 1, x0, x1, x7, x146000, x146001 => if x7 < (x146001.length : Int) then (if 0 ≤ x7 then ((paymasterref14_Of.f x0 ((rd_TNode x146001 x7).f0) ((rd_TNode x146001 x7).f1.f0) ((rd_TNode x146001 x7).f1.f1)).bind fun t147 => (if t147 = true then (paymasterref16_Shape.l0 k x0 x1 (wrap64 (x7 + 1)) x146000 x146001) else (some 70))) else (none)) else (if (x146001.length : Int) = x1 then ((paymasterref16_Two.f k x1).bind fun t148 => (if x146000 ≥ t148 then (some 160) else (some 0))) else (some 160))
end
def paymasterref16_Shape.f (k : Nat) (a0 : Int) (a1 : Int) (a2_0 : Int) (l2_1 : List (SNode)) : Option (Int) := if a1 < 0 then (paymasterref16_Shape.j0 k a0 a1 true a2_0 l2_1) else (paymasterref16_Shape.j0 k a0 a1 (decide (a1 > 63)) a2_0 l2_1)
set_option maxHeartbeats 8000000 in
set_option maxRecDepth 100000 in
theorem paymasterref16_Shape.calls (k : Nat) (a0 : Int) (a1 : Int) (a2_0 : Int) (A2_1 : Option Addr) (c2_1 : Nat) (l2_1 : List (SNode)) (r : Int) (w : World) (hr2_1 : Kd.C kNode w A2_1 l2_1.length l2_1) (hc2_1 : l2_1.length ≤ c2_1) (h : paymasterref16_Shape.f k a0 a1 a2_0 l2_1 = some r) :
  Calls Tryz.prog 17 #[.int .i64 a0, .int .i64 a1, .agg #[.int .u64 a2_0, .slice A2_1 l2_1.length c2_1]] w fun e w' => e = .returned (.int .i64 r) ∧ Below w.heap.size w w' := by
 have hu37 := Tryz.underlying37
 have hu67 := Tryz.underlying67
 have HR2_1 := aM' hr2_1
 have HC2_1 := aM' hc2_1
 clear hr2_1 hc2_1
 have HB := aM' (Below.refl w.heap.size w)
 have H : (if a1 < 0 then (paymasterref16_Shape.j0 k a0 a1 true a2_0 l2_1) else (paymasterref16_Shape.j0 k a0 a1 (decide (a1 > 63)) a2_0 l2_1)) = some r := h
 clear h
 have HC4 := aM' H
 clear H
 go_enter Tryz.func17, Tryz.ntmps17
 go_upto_region 1 with (first | ((with_reducible refine gate_dst (N := 5) rfl ?_); refine box_event ?hg (N := 5) ?hd (cs := #[.int .u64 a2_0, .slice A2_1 l2_1.length c2_1]) (t := 37) ?hr ?_; (case hd => rfl); (case hg => rfl); (case hr => first | (go_simp; done) | (go_simp; rfl)); intro gb145 hg w5 hbox hb; have n0_ := aM' (below_step (by repeat (first | (with_reducible first | exact HB.out | apply below_alloc | apply pw_below_drewN | apply below_drew1) | exact HB.out)) hb); have n1_ := aM' (hbox); have n2_ := aM' ((by rw [hg]; exact (below_size (by repeat (first | (with_reducible first | exact HB.out | apply below_alloc | apply pw_below_drewN | apply below_drew1) | exact HB.out))) : w.heap.size ≤ gb145)); have n3_ := aM' ((by rw [hg]; exact (below_size (by repeat (first | (with_reducible first | exact HB.out | apply below_alloc | apply pw_below_drewN | apply below_drew1) | exact HB.out))) : w.heap.size ≤ gb145)); clear HB; have HB := n0_; have BK145 := n1_; have GW145 := n2_; have GE145 := n3_; clear n0_ n1_ n2_ n3_; clear hb hbox hg))
 repeat (go_quiet (first | ((with_reducible refine gate_dst (N := 5) rfl ?_); refine box_event ?hg (N := 5) ?hd (cs := #[.int .u64 a2_0, .slice A2_1 l2_1.length c2_1]) (t := 37) ?hr ?_; (case hd => rfl); (case hg => rfl); (case hr => first | (go_simp; done) | (go_simp; rfl)); intro gb145 hg w5 hbox hb; have n0_ := aM' (below_step (by repeat (first | (with_reducible first | exact HB.out | apply below_alloc | apply pw_below_drewN | apply below_drew1) | exact HB.out)) hb); have n1_ := aM' (hbox); have n2_ := aM' ((by rw [hg]; exact (below_size (by repeat (first | (with_reducible first | exact HB.out | apply below_alloc | apply pw_below_drewN | apply below_drew1) | exact HB.out))) : w.heap.size ≤ gb145)); have n3_ := aM' ((by rw [hg]; exact (below_size (by repeat (first | (with_reducible first | exact HB.out | apply below_alloc | apply pw_below_drewN | apply below_drew1) | exact HB.out))) : w.heap.size ≤ gb145)); clear HB; have HB := n0_; have BK145 := n1_; have GW145 := n2_; have GE145 := n3_; clear n0_ n1_ n2_ n3_; clear hb hbox hg)); go_upto_region 1 with (first | ((with_reducible refine gate_dst (N := 5) rfl ?_); refine box_event ?hg (N := 5) ?hd (cs := #[.int .u64 a2_0, .slice A2_1 l2_1.length c2_1]) (t := 37) ?hr ?_; (case hd => rfl); (case hg => rfl); (case hr => first | (go_simp; done) | (go_simp; rfl)); intro gb145 hg w5 hbox hb; have n0_ := aM' (below_step (by repeat (first | (with_reducible first | exact HB.out | apply below_alloc | apply pw_below_drewN | apply below_drew1) | exact HB.out)) hb); have n1_ := aM' (hbox); have n2_ := aM' ((by rw [hg]; exact (below_size (by repeat (first | (with_reducible first | exact HB.out | apply below_alloc | apply pw_below_drewN | apply below_drew1) | exact HB.out))) : w.heap.size ≤ gb145)); have n3_ := aM' ((by rw [hg]; exact (below_size (by repeat (first | (with_reducible first | exact HB.out | apply below_alloc | apply pw_below_drewN | apply below_drew1) | exact HB.out))) : w.heap.size ≤ gb145)); clear HB; have HB := n0_; have BK145 := n1_; have GW145 := n2_; have GE145 := n3_; clear n0_ n1_ n2_ n3_; clear hb hbox hg)))
 (try simp only [Act.put, List.setIfInBounds_toArray, List.set_cons_zero, List.set_cons_succ])
 go_cut [13] (fun v13 wc => ∃ (kq : Nat) (x13_3 : Bool), v13 = .bool x13_3 ∧ Aside0 (paymasterref16_Shape.j0 kq a0 a1 x13_3 a2_0 l2_1 = some r) ∧ Aside0 (kq ≤ k) ∧ Aside0 (wc.heap[gb145]? = some (.cells #[.int .u64 a2_0, (.slice A2_1 l2_1.length c2_1)] 37 (0, 0))) ∧ Aside0 (Below w.heap.size w wc))
 case first =>
  have H := HC4.out
  clear HC4
  by_cases c6 : a1 < 0
  ·
   rw [if_pos c6] at H
   have c6b0 : decide (a1 < 0) = true := decide_eq_true c6
   clear c6
   (first | rw [c6b0] | (simp only [i64_w, i32_w]; rw [c6b0]) | skip)
   have H' := aM' H
   clear H
   go_wp2
   repeat (go_quiet (fail); try go_wp2)
   go_meet
   case rel => exact ⟨_, (true), (by first | rfl | (simp; done) | (simp [*]; done)), H', ⟨by first | omega | exact Nat.le_refl _⟩, ⟨by (with_reducible repeat (first | refine blk_drewN ?_ _ | refine blk_drew ?_ | refine blk_alloc ?_ _)); exact BK145.out⟩, ⟨by repeat (first | (with_reducible first | exact HB.out | apply below_alloc | apply pw_below_drewN | apply below_drew1 | refine below_set ?_ GE145.out) | exact HB.out)⟩⟩
  ·
   rw [if_neg c6] at H
   have c6b0 : decide (a1 < 0) = false := decide_eq_false c6
   clear c6
   (first | rw [c6b0] | (simp only [i64_w, i32_w]; rw [c6b0]) | skip)
   have H' := aM' H
   clear H
   go_wp2
   repeat (go_quiet (fail); try go_wp2)
   go_meet
   case rel => exact ⟨_, (decide (a1 > 63)), (by first | rfl | (simp; done) | (simp [*]; done)), H', ⟨by first | omega | exact Nat.le_refl _⟩, ⟨by (with_reducible repeat (first | refine blk_drewN ?_ _ | refine blk_drew ?_ | refine blk_alloc ?_ _)); exact BK145.out⟩, ⟨by repeat (first | (with_reducible first | exact HB.out | apply below_alloc | apply pw_below_drewN | apply below_drew1 | refine below_set ?_ GE145.out) | exact HB.out)⟩⟩
 case rest =>
  clear HC4
  try clear c1
  try clear c2
  try clear p2
  try clear c6
  try clear c6b0
  obtain ⟨kq, x13_3, rfl, HA, HJ3, BK145, HB⟩ := hcut
  cases kq with
  | zero => exact absurd HA.out (by simp [paymasterref16_Shape.j0])
  | succ kj3 =>
   have H := HA.out
   clear HA
   simp only [paymasterref16_Shape.j0] at H
   by_cases c7 : x13_3 = true
   ·
    subst c7
    have H1 : (some 120) = some r := by rw [if_pos rfl] at H; exact H
    clear H
    have H := H1
    clear H1
    obtain rfl := Option.some.inj H
    go_wp2
    repeat (go_quiet (fail); try go_wp2)
    go_ret
    exact ⟨by first | rfl | (simp [errW_none, errW_some] <;> rfl) | (simp [*, errW_none, errW_some] <;> rfl), by repeat (first | (with_reducible first | exact HB.out | apply below_alloc | apply pw_below_drewN | apply below_drew1 | refine below_set ?_ GE145.out) | exact HB.out)⟩
   ·
    replace c7 := Bool.eq_false_iff.mpr c7
    subst c7
    have H1 : (if a0 < 1 then (paymasterref16_Shape.j1 kj3 a0 a1 true a2_0 l2_1) else (paymasterref16_Shape.j1 kj3 a0 a1 (decide (a0 > 32)) a2_0 l2_1)) = some r := by rw [if_neg (show ¬ (false = true) by decide)] at H; exact H
    clear H
    have H := H1
    clear H1
    have HC8 := aM' H
    clear H
    go_upto_region 3 with (fail)
    repeat (go_quiet (fail); go_upto_region 3 with (fail))
    go_cut [19] (fun v19 wc => ∃ (kq : Nat) (x19_7 : Bool), v19 = .bool x19_7 ∧ Aside0 (paymasterref16_Shape.j1 kq a0 a1 x19_7 a2_0 l2_1 = some r) ∧ Aside0 (kq ≤ kj3) ∧ Aside0 (wc.heap[gb145]? = some (.cells #[.int .u64 a2_0, (.slice A2_1 l2_1.length c2_1)] 37 (0, 0))) ∧ Aside0 (Below w.heap.size w wc))
    case first =>
     have H := HC8.out
     clear HC8
     by_cases c9 : a0 < 1
     ·
      rw [if_pos c9] at H
      have c9b0 : decide (a0 < 1) = true := decide_eq_true c9
      clear c9
      (first | rw [c9b0] | (simp only [i64_w, i32_w]; rw [c9b0]) | skip)
      have H' := aM' H
      clear H
      go_wp2
      repeat (go_quiet (fail); try go_wp2)
      go_meet
      case rel => exact ⟨_, (true), (by first | rfl | (simp; done) | (simp [*]; done)), H', ⟨by have := HJ3.out; first | omega | exact Nat.le_refl _⟩, ⟨by (with_reducible repeat (first | refine blk_drewN ?_ _ | refine blk_drew ?_ | refine blk_alloc ?_ _)); exact BK145.out⟩, ⟨by repeat (first | (with_reducible first | exact HB.out | apply below_alloc | apply pw_below_drewN | apply below_drew1 | refine below_set ?_ GE145.out) | exact HB.out)⟩⟩
     ·
      rw [if_neg c9] at H
      have c9b0 : decide (a0 < 1) = false := decide_eq_false c9
      clear c9
      (first | rw [c9b0] | (simp only [i64_w, i32_w]; rw [c9b0]) | skip)
      have H' := aM' H
      clear H
      go_wp2
      repeat (go_quiet (fail); try go_wp2)
      go_meet
      case rel => exact ⟨_, (decide (a0 > 32)), (by first | rfl | (simp; done) | (simp [*]; done)), H', ⟨by have := HJ3.out; first | omega | exact Nat.le_refl _⟩, ⟨by (with_reducible repeat (first | refine blk_drewN ?_ _ | refine blk_drew ?_ | refine blk_alloc ?_ _)); exact BK145.out⟩, ⟨by repeat (first | (with_reducible first | exact HB.out | apply below_alloc | apply pw_below_drewN | apply below_drew1 | refine below_set ?_ GE145.out) | exact HB.out)⟩⟩
    case rest =>
     clear HC8
     try clear c1
     try clear c2
     try clear p2
     try clear c6
     try clear c6b0
     try clear c7
     try clear c9
     try clear c9b0
     try clear p2
     obtain ⟨kq, x19_7, rfl, HA, HJ7, BK145, HB⟩ := hcut
     cases kq with
     | zero => exact absurd HA.out (by simp [paymasterref16_Shape.j1])
     | succ kj7 =>
      have H := HA.out
      clear HA
      simp only [paymasterref16_Shape.j1] at H
      by_cases c10 : x19_7 = true
      ·
       subst c10
       have H1 : (some 70) = some r := by rw [if_pos rfl] at H; exact H
       clear H
       have H := H1
       clear H1
       obtain rfl := Option.some.inj H
       go_wp2
       repeat (go_quiet (fail); try go_wp2)
       go_ret
       exact ⟨by first | rfl | (simp [errW_none, errW_some] <;> rfl) | (simp [*, errW_none, errW_some] <;> rfl), by repeat (first | (with_reducible first | exact HB.out | apply below_alloc | apply pw_below_drewN | apply below_drew1 | refine below_set ?_ GE145.out) | exact HB.out)⟩
      ·
       replace c10 := Bool.eq_false_iff.mpr c10
       subst c10
       have H1 : (paymasterref16_Shape.l0 kj7 a0 a1 0 a2_0 l2_1) = some r := by rw [if_neg (show ¬ (false = true) by decide)] at H; exact H
       clear H
       have H := H1
       clear H1
       have H' := aM' H
       clear H
       go_wp2
       repeat (go_quiet (fail); try go_wp2)
       go_loopg [7] kj7 (fun kq v7 w' => ∃ (x7_3 : Int), v7 = .int .i64 x7_3 ∧ Aside0 (paymasterref16_Shape.l0 kq a0 a1 x7_3 a2_0 l2_1 = some r) ∧ Aside0 (kq ≤ kj7) ∧ Aside0 (w'.heap[gb145]? = some (.cells #[.int .u64 a2_0, (.slice A2_1 l2_1.length c2_1)] 37 (0, 0))) ∧ Aside0 (Below w.heap.size w w'))
       case atStart => exact ⟨(0), (by first | rfl | (simp; done) | (simp [*]; done)), H', ⟨Nat.le_refl _⟩, ⟨by (with_reducible repeat (first | refine blk_drewN ?_ _ | refine blk_drew ?_ | refine blk_alloc ?_ _)); exact BK145.out⟩, ⟨by repeat (first | (with_reducible first | exact HB.out | apply below_alloc | apply pw_below_drewN | apply below_drew1 | refine below_set ?_ GE145.out) | exact HB.out)⟩⟩
       case round =>
        clear H'
        try clear c1
        try clear c2
        try clear p2
        try clear c6
        try clear c6b0
        try clear c7
        try clear c9
        try clear c9b0
        try clear c10
        try clear p2
        obtain ⟨x7_3, rfl, HA, HK3, BK145, HB⟩ := hrel
        cases gk with
        | zero => exact absurd HA.out (by simp [paymasterref16_Shape.l0])
        | succ k3 =>
         have H := HA.out
         clear HA
         simp only [paymasterref16_Shape.l0] at H
         by_cases c11 : x7_3 < (l2_1.length : Int)
         ·
          rw [if_pos c11] at H
          have c11b0 : decide (x7_3 < (l2_1.length : Int)) = true := decide_eq_true c11
          clear c11
          by_cases c12 : 0 ≤ x7_3
          ·
           rw [if_pos c12] at H
           have c12b0 : decide (0 ≤ x7_3) = true := decide_eq_true c12
           clear c12
           replace H := Option.bind_eq_some_iff.mp H
           obtain ⟨t147, A130, H⟩ := H
           replace H : (if t147 = true then (paymasterref16_Shape.l0 k3 a0 a1 (wrap64 (x7_3 + 1)) a2_0 l2_1) else (some 70)) = some r := H
           have A13 := aM' A130
           clear A130
           by_cases c14 : t147 = true
           ·
            subst c14
            have H1 : (paymasterref16_Shape.l0 k3 a0 a1 (wrap64 (x7_3 + 1)) a2_0 l2_1) = some r := by rw [if_pos rfl] at H; exact H
            clear H
            have H := H1
            clear H1
            have H' := aM' H
            clear H
            have hcz15_0 : wr.cell? ⟨gb145, 0, none⟩ = some (.int .u64 a2_0) := (blk_cell BK145.out 0).trans rfl
            have hcz15_1 : wr.cell? ⟨gb145, 1, none⟩ = some (.slice A2_1 l2_1.length c2_1) := (blk_cell BK145.out 1).trans rfl
            have hfz15_0 := blk_frozen BK145.out 0
            have hfz15_1 := blk_frozen BK145.out 1
            have p146 : 0 ≤ (x7_3 : Int) := of_decide_eq_true (by first | (with_reducible assumption) | assumption)
            have q146 : x7_3 < (l2_1.length : Int) := of_decide_eq_true (by first | (with_reducible assumption) | assumption)
            obtain ⟨ad146, e146, hx146_0, hx146_1, hx146_2⟩ := at_TNode HR2_1.out x7_3 p146 q146
            cases e146
            replace hx146_0 := (HB.out.cell (bL' w _ hx146_0)).trans hx146_0
            replace hx146_1 := (HB.out.cell (bL' w _ hx146_1)).trans hx146_1
            replace hx146_2 := (HB.out.cell (bL' w _ hx146_2)).trans hx146_2
            replace p146 := eq_true p146
            replace q146 := eq_true q146
            go_wp2_with (first | (go_at_call 29; (with_reducible refine (paymasterref14_Of.calls a0 ((rd_TNode l2_1 x7_3).f0) ((rd_TNode l2_1 x7_3).f1.f0) ((rd_TNode l2_1 x7_3).f1.f1) true _ A13.out).mono ?_); rintro e w16 ⟨rfl, hb⟩; have n0_ := aM' (blk_below (g := gb145) (o := .cells #[.int .u64 a2_0, .slice (some ad146) l2_1.length c2_1] 37 (0, 0)) (by (with_reducible repeat (first | refine blk_drewN ?_ _ | refine blk_drew ?_ | refine blk_alloc ?_ _)); exact BK145.out) hb); have n1_ := aM' (below_step (by repeat (first | (with_reducible first | exact HB.out | apply below_alloc | apply pw_below_drewN | apply below_drew1 | refine below_set ?_ GE145.out) | exact HB.out)) hb); clear BK145; clear HB; have BK145 := n0_; have HB := n1_; clear n0_ n1_; (try clear hb); (try clear hb2); (try clear hk); (try clear hi)))
            repeat (go_quiet (first | (go_at_call 29; (with_reducible refine (paymasterref14_Of.calls a0 ((rd_TNode l2_1 x7_3).f0) ((rd_TNode l2_1 x7_3).f1.f0) ((rd_TNode l2_1 x7_3).f1.f1) true _ A13.out).mono ?_); rintro e w16 ⟨rfl, hb⟩; have n0_ := aM' (blk_below (g := gb145) (o := .cells #[.int .u64 a2_0, .slice (some ad146) l2_1.length c2_1] 37 (0, 0)) (by (with_reducible repeat (first | refine blk_drewN ?_ _ | refine blk_drew ?_ | refine blk_alloc ?_ _)); exact BK145.out) hb); have n1_ := aM' (below_step (by repeat (first | (with_reducible first | exact HB.out | apply below_alloc | apply pw_below_drewN | apply below_drew1 | refine below_set ?_ GE145.out) | exact HB.out)) hb); clear BK145; clear HB; have BK145 := n0_; have HB := n1_; clear n0_ n1_; (try clear hb); (try clear hb2); (try clear hk); (try clear hi))); try go_wp2_with (first | (go_at_call 29; (with_reducible refine (paymasterref14_Of.calls a0 ((rd_TNode l2_1 x7_3).f0) ((rd_TNode l2_1 x7_3).f1.f0) ((rd_TNode l2_1 x7_3).f1.f1) true _ A13.out).mono ?_); rintro e w16 ⟨rfl, hb⟩; have n0_ := aM' (blk_below (g := gb145) (o := .cells #[.int .u64 a2_0, .slice (some ad146) l2_1.length c2_1] 37 (0, 0)) (by (with_reducible repeat (first | refine blk_drewN ?_ _ | refine blk_drew ?_ | refine blk_alloc ?_ _)); exact BK145.out) hb); have n1_ := aM' (below_step (by repeat (first | (with_reducible first | exact HB.out | apply below_alloc | apply pw_below_drewN | apply below_drew1 | refine below_set ?_ GE145.out) | exact HB.out)) hb); clear BK145; clear HB; have BK145 := n0_; have HB := n1_; clear n0_ n1_; (try clear hb); (try clear hb2); (try clear hk); (try clear hi))))
            go_roundg k3
            case measure => have := HJ3.out; have := HJ7.out; have := HK3.out; omega
            case rel => exact ⟨(wrap64 (x7_3 + 1)), (by first | rfl | (simp; done) | (simp [*]; done)), H', ⟨by have := HJ3.out; have := HJ7.out; have := HK3.out; omega⟩, ⟨by (with_reducible repeat (first | refine blk_drewN ?_ _ | refine blk_drew ?_ | refine blk_alloc ?_ _)); exact BK145.out⟩, ⟨by repeat (first | (with_reducible first | exact HB.out | apply below_alloc | apply pw_below_drewN | apply below_drew1 | refine below_set ?_ GE145.out) | exact HB.out)⟩⟩
           ·
            replace c14 := Bool.eq_false_iff.mpr c14
            subst c14
            have H1 : (some 70) = some r := by rw [if_neg (show ¬ (false = true) by decide)] at H; exact H
            clear H
            have H := H1
            clear H1
            obtain rfl := Option.some.inj H
            have hcz17_0 : wr.cell? ⟨gb145, 0, none⟩ = some (.int .u64 a2_0) := (blk_cell BK145.out 0).trans rfl
            have hcz17_1 : wr.cell? ⟨gb145, 1, none⟩ = some (.slice A2_1 l2_1.length c2_1) := (blk_cell BK145.out 1).trans rfl
            have hfz17_0 := blk_frozen BK145.out 0
            have hfz17_1 := blk_frozen BK145.out 1
            have p146 : 0 ≤ (x7_3 : Int) := of_decide_eq_true (by first | (with_reducible assumption) | assumption)
            have q146 : x7_3 < (l2_1.length : Int) := of_decide_eq_true (by first | (with_reducible assumption) | assumption)
            obtain ⟨ad146, e146, hx146_0, hx146_1, hx146_2⟩ := at_TNode HR2_1.out x7_3 p146 q146
            cases e146
            replace hx146_0 := (HB.out.cell (bL' w _ hx146_0)).trans hx146_0
            replace hx146_1 := (HB.out.cell (bL' w _ hx146_1)).trans hx146_1
            replace hx146_2 := (HB.out.cell (bL' w _ hx146_2)).trans hx146_2
            replace p146 := eq_true p146
            replace q146 := eq_true q146
            go_wp2_with (first | (go_at_call 29; (with_reducible refine (paymasterref14_Of.calls a0 ((rd_TNode l2_1 x7_3).f0) ((rd_TNode l2_1 x7_3).f1.f0) ((rd_TNode l2_1 x7_3).f1.f1) false _ A13.out).mono ?_); rintro e w18 ⟨rfl, hb⟩; have n0_ := aM' (blk_below (g := gb145) (o := .cells #[.int .u64 a2_0, .slice (some ad146) l2_1.length c2_1] 37 (0, 0)) (by (with_reducible repeat (first | refine blk_drewN ?_ _ | refine blk_drew ?_ | refine blk_alloc ?_ _)); exact BK145.out) hb); have n1_ := aM' (below_step (by repeat (first | (with_reducible first | exact HB.out | apply below_alloc | apply pw_below_drewN | apply below_drew1 | refine below_set ?_ GE145.out) | exact HB.out)) hb); clear BK145; clear HB; have BK145 := n0_; have HB := n1_; clear n0_ n1_; (try clear hb); (try clear hb2); (try clear hk); (try clear hi)))
            repeat (go_quiet (first | (go_at_call 29; (with_reducible refine (paymasterref14_Of.calls a0 ((rd_TNode l2_1 x7_3).f0) ((rd_TNode l2_1 x7_3).f1.f0) ((rd_TNode l2_1 x7_3).f1.f1) false _ A13.out).mono ?_); rintro e w18 ⟨rfl, hb⟩; have n0_ := aM' (blk_below (g := gb145) (o := .cells #[.int .u64 a2_0, .slice (some ad146) l2_1.length c2_1] 37 (0, 0)) (by (with_reducible repeat (first | refine blk_drewN ?_ _ | refine blk_drew ?_ | refine blk_alloc ?_ _)); exact BK145.out) hb); have n1_ := aM' (below_step (by repeat (first | (with_reducible first | exact HB.out | apply below_alloc | apply pw_below_drewN | apply below_drew1 | refine below_set ?_ GE145.out) | exact HB.out)) hb); clear BK145; clear HB; have BK145 := n0_; have HB := n1_; clear n0_ n1_; (try clear hb); (try clear hb2); (try clear hk); (try clear hi))); try go_wp2_with (first | (go_at_call 29; (with_reducible refine (paymasterref14_Of.calls a0 ((rd_TNode l2_1 x7_3).f0) ((rd_TNode l2_1 x7_3).f1.f0) ((rd_TNode l2_1 x7_3).f1.f1) false _ A13.out).mono ?_); rintro e w18 ⟨rfl, hb⟩; have n0_ := aM' (blk_below (g := gb145) (o := .cells #[.int .u64 a2_0, .slice (some ad146) l2_1.length c2_1] 37 (0, 0)) (by (with_reducible repeat (first | refine blk_drewN ?_ _ | refine blk_drew ?_ | refine blk_alloc ?_ _)); exact BK145.out) hb); have n1_ := aM' (below_step (by repeat (first | (with_reducible first | exact HB.out | apply below_alloc | apply pw_below_drewN | apply below_drew1 | refine below_set ?_ GE145.out) | exact HB.out)) hb); clear BK145; clear HB; have BK145 := n0_; have HB := n1_; clear n0_ n1_; (try clear hb); (try clear hb2); (try clear hk); (try clear hi))))
            go_ret
            exact ⟨by first | rfl | (simp [errW_none, errW_some] <;> rfl) | (simp [*, errW_none, errW_some] <;> rfl), by repeat (first | (with_reducible first | exact HB.out | apply below_alloc | apply pw_below_drewN | apply below_drew1 | refine below_set ?_ GE145.out) | exact HB.out)⟩
          ·
           rw [if_neg c12] at H
           exact absurd H (by simp)
         ·
          rw [if_neg c11] at H
          have c11b0 : decide (x7_3 < (l2_1.length : Int)) = false := decide_eq_false c11
          clear c11
          by_cases c19 : (l2_1.length : Int) = a1
          ·
           rw [if_pos c19] at H
           have c19b0 : ((l2_1.length : Int) == a1) = true := beq_iff_eq.mpr c19
           have c19b1 : ((l2_1.length : Int) != a1) = false := bne_eq_false_iff_eq.mpr c19
           clear c19
           replace H := Option.bind_eq_some_iff.mp H
           obtain ⟨t148, A200, H⟩ := H
           replace H : (if a2_0 ≥ t148 then (some 160) else (some 0)) = some r := H
           have A20 := aM' A200
           clear A200
           by_cases c21 : a2_0 ≥ t148
           ·
            rw [if_pos c21] at H
            have c21b0 : decide (t148 ≤ a2_0) = true := decide_eq_true c21
            clear c21
            obtain rfl := Option.some.inj H
            have hcz22_0 : wr.cell? ⟨gb145, 0, none⟩ = some (.int .u64 a2_0) := (blk_cell BK145.out 0).trans rfl
            have hcz22_1 : wr.cell? ⟨gb145, 1, none⟩ = some (.slice A2_1 l2_1.length c2_1) := (blk_cell BK145.out 1).trans rfl
            have hfz22_0 := blk_frozen BK145.out 0
            have hfz22_1 := blk_frozen BK145.out 1
            go_wp2_with (first | (go_at_call 30; (with_reducible refine (paymasterref16_Two.calls k3 a1 t148 _ A20.out).mono ?_); rintro e w' ⟨rfl, ⟨nd, rfl⟩⟩; (try first | exact ⟨rfl, _, World.drewN_drewN _ _ _⟩ | exact ⟨rfl, _, Eq.trans (World.drewN_drewN _ _ _) (congrArg (World.drewN _) (Nat.add_assoc _ _ _))⟩)))
            repeat (go_quiet (first | (go_at_call 30; (with_reducible refine (paymasterref16_Two.calls k3 a1 t148 _ A20.out).mono ?_); rintro e w' ⟨rfl, ⟨nd, rfl⟩⟩; (try first | exact ⟨rfl, _, World.drewN_drewN _ _ _⟩ | exact ⟨rfl, _, Eq.trans (World.drewN_drewN _ _ _) (congrArg (World.drewN _) (Nat.add_assoc _ _ _))⟩))); try go_wp2_with (first | (go_at_call 30; (with_reducible refine (paymasterref16_Two.calls k3 a1 t148 _ A20.out).mono ?_); rintro e w' ⟨rfl, ⟨nd, rfl⟩⟩; (try first | exact ⟨rfl, _, World.drewN_drewN _ _ _⟩ | exact ⟨rfl, _, Eq.trans (World.drewN_drewN _ _ _) (congrArg (World.drewN _) (Nat.add_assoc _ _ _))⟩))))
            go_ret
            exact ⟨by first | rfl | (simp [errW_none, errW_some] <;> rfl) | (simp [*, errW_none, errW_some] <;> rfl), by repeat (first | (with_reducible first | exact HB.out | apply below_alloc | apply pw_below_drewN | apply below_drew1 | refine below_set ?_ GE145.out) | exact HB.out)⟩
           ·
            rw [if_neg c21] at H
            have c21b0 : decide (t148 ≤ a2_0) = false := decide_eq_false c21
            clear c21
            obtain rfl := Option.some.inj H
            have hcz23_0 : wr.cell? ⟨gb145, 0, none⟩ = some (.int .u64 a2_0) := (blk_cell BK145.out 0).trans rfl
            have hcz23_1 : wr.cell? ⟨gb145, 1, none⟩ = some (.slice A2_1 l2_1.length c2_1) := (blk_cell BK145.out 1).trans rfl
            have hfz23_0 := blk_frozen BK145.out 0
            have hfz23_1 := blk_frozen BK145.out 1
            go_wp2_with (first | (go_at_call 30; (with_reducible refine (paymasterref16_Two.calls k3 a1 t148 _ A20.out).mono ?_); rintro e w' ⟨rfl, ⟨nd, rfl⟩⟩; (try first | exact ⟨rfl, _, World.drewN_drewN _ _ _⟩ | exact ⟨rfl, _, Eq.trans (World.drewN_drewN _ _ _) (congrArg (World.drewN _) (Nat.add_assoc _ _ _))⟩)))
            repeat (go_quiet (first | (go_at_call 30; (with_reducible refine (paymasterref16_Two.calls k3 a1 t148 _ A20.out).mono ?_); rintro e w' ⟨rfl, ⟨nd, rfl⟩⟩; (try first | exact ⟨rfl, _, World.drewN_drewN _ _ _⟩ | exact ⟨rfl, _, Eq.trans (World.drewN_drewN _ _ _) (congrArg (World.drewN _) (Nat.add_assoc _ _ _))⟩))); try go_wp2_with (first | (go_at_call 30; (with_reducible refine (paymasterref16_Two.calls k3 a1 t148 _ A20.out).mono ?_); rintro e w' ⟨rfl, ⟨nd, rfl⟩⟩; (try first | exact ⟨rfl, _, World.drewN_drewN _ _ _⟩ | exact ⟨rfl, _, Eq.trans (World.drewN_drewN _ _ _) (congrArg (World.drewN _) (Nat.add_assoc _ _ _))⟩))))
            go_ret
            exact ⟨by first | rfl | (simp [errW_none, errW_some] <;> rfl) | (simp [*, errW_none, errW_some] <;> rfl), by repeat (first | (with_reducible first | exact HB.out | apply below_alloc | apply pw_below_drewN | apply below_drew1 | refine below_set ?_ GE145.out) | exact HB.out)⟩
          ·
           rw [if_neg c19] at H
           have c19b0 : ((l2_1.length : Int) == a1) = false := beq_eq_false_iff_ne.mpr c19
           have c19b1 : ((l2_1.length : Int) != a1) = true := bne_iff_ne.mpr c19
           obtain rfl := Option.some.inj H
           have hcz24_0 : wr.cell? ⟨gb145, 0, none⟩ = some (.int .u64 a2_0) := (blk_cell BK145.out 0).trans rfl
           have hcz24_1 : wr.cell? ⟨gb145, 1, none⟩ = some (.slice A2_1 l2_1.length c2_1) := (blk_cell BK145.out 1).trans rfl
           have hfz24_0 := blk_frozen BK145.out 0
           have hfz24_1 := blk_frozen BK145.out 1
           go_wp2
           repeat (go_quiet (fail); try go_wp2)
           go_ret
           exact ⟨by first | rfl | (simp [errW_none, errW_some] <;> rfl) | (simp [*, errW_none, errW_some] <;> rfl), by repeat (first | (with_reducible first | exact HB.out | apply below_alloc | apply pw_below_drewN | apply below_drew1 | refine below_set ?_ GE145.out) | exact HB.out)⟩
end Go.Proofs.YtlmmpncdemblbaaGreatDoor.P
namespace Go.Proofs.YtlmmpncdemblbaaGreatDoor.P
open Go.RowKit Go.Proofs.YtlmmpncdemblbaaGreatDoorW.PrintWords Go.Proofs.YtlmmpncdemblbaaGreatDoorW.PrintLast Go.Proofs.YtlmmpncdemblbaaGreatDoorW.PrintMore
set_option linter.unusedVariables false
set_option linter.unusedSimpArgs false
set_option linter.unnecessarySimpa false
theorem rdLeaf_nat (l : List SLeaf) (i : Nat) (h : i < l.length) : rd_TLeaf l (i : Int) = l[i] := by simp [rd_TLeaf, h]
theorem great15_loop (l : List SLeaf) (hl : l.length ≤ 9223372036854775807) : ∀ d i : Nat, i + d = l.length → Ev (fun k => paymasterlaw15_Great.l0 k l (i : Int)) ((l.drop i).any fun n => decide (200 < n.f1.size) || decide (200 < n.f2.size)) := by
 intro d
 induction d with
 | zero =>
  intro i hi
  refine Ev.step (f := fun _ => some false) (fun k => ?_) (ev_eq (Ev.now false) ?_)
  ·
   simp only [paymasterlaw15_Great.l0]; rw [if_neg (by omega)]
  ·
   rw [List.drop_of_length_le (by omega)]; rfl
 | succ d ih =>
  intro i hi
  have hlt : i < l.length := by omega
  rw [any_drop_succ _ l i hlt]
  by_cases hb : 200 < l[i].f1.size
  ·
   refine Ev.step (f := fun _ => some true) (fun k => ?_) (ev_eq (Ev.now true) (by simp [hb]))
   simp only [paymasterlaw15_Great.l0]; rw [if_pos (by omega), if_pos (by omega), rdLeaf_nat l i hlt, if_pos (by omega)]
  ·
   by_cases hc : 200 < l[i].f2.size
   ·
    refine Ev.step (f := fun _ => some true) (fun k => ?_) (ev_eq (Ev.now true) (by simp [hc]))
    simp only [paymasterlaw15_Great.l0]; rw [if_pos (by omega), if_pos (by omega), rdLeaf_nat l i hlt, if_neg (by omega), if_pos (by omega)]
   ·
    refine Ev.step (f := fun k => paymasterlaw15_Great.l0 k l ((i + 1 : Nat) : Int)) (fun k => ?_) (ev_eq (ih (i + 1) (by omega)) (by simp [hb, hc]))
    simp only [paymasterlaw15_Great.l0]; rw [if_pos (by omega), if_pos (by omega), rdLeaf_nat l i hlt, if_neg (by omega), if_neg (by omega), wrap64_id (by omega) (by omega)]; rfl
def greatL (l : List SLeaf) : Bool := decide (70 < l.length) || l.any fun n => decide (200 < n.f1.size) || decide (200 < n.f2.size)
theorem great15_ev (l : List SLeaf) (hl : l.length ≤ 9223372036854775807) : Ev (fun k => paymasterlaw15_Great.f k l) (greatL l) := by
 unfold paymasterlaw15_Great.f greatL
 by_cases h : 70 < l.length
 ·
  exact Ev.some_ (fun k => by rw [if_pos (by omega)]; simp [h])
 ·
  refine Ev.congr (fun k => by rw [if_neg (by omega)]; rfl) (ev_eq (great15_loop l hl l.length 0 (by omega)) (by simp [h]))
def longE (e : SEntry) : Bool := decide (100 < e.f1.f1.length) || (greatN e.f1.f1 || greatL [e.f0])
theorem longE_ev (e : SEntry) (hl : e.f1.f1.length ≤ 9223372036854775807) : Ev (fun k => paymasterlaw16_LongEntry.f k e.f0.f0 e.f0.f1 e.f0.f2 e.f0.f3.f0 e.f0.f3.f1 e.f1.f0 e.f1.f1) (longE e) := by
 unfold paymasterlaw16_LongEntry.f longE
 by_cases h : 100 < e.f1.f1.length
 ·
  exact Ev.some_ (fun k => by rw [if_pos (by omega)]; simp [h])
 ·
  refine Ev.congr (fun k => by rw [if_neg (by omega)]) (Ev.bind (great14_ev _ hl) ?_)
  cases hg : greatN e.f1.f1 with
  | true => exact Ev.some_ (fun k => by simp)
  | false =>
   refine Ev.congr (fun k => by rw [if_neg (by simp)]) (Ev.bind (great15_ev [e.f0] (by simp)) ?_)
   exact Ev.some_ (fun k => by simp [h])
theorem two_loop (n : Nat) (hn : n ≤ 63) : ∀ d i : Nat, i + d = n → Ev (fun k => paymasterref16_Two.l0 k (n : Int) ((2 ^ i : Nat) : Int) (i : Int)) ((2 ^ n : Nat) : Int) := by
 intro d
 induction d with
 | zero =>
  intro i hi
  obtain rfl : i = n := by omega
  exact Ev.step (f := fun _ => some ((2 ^ i : Nat) : Int)) (fun k => by simp only [paymasterref16_Two.l0]; rw [if_neg (by omega)]) (Ev.now _)
 | succ d ih =>
  intro i hi
  refine Ev.step (f := fun k => paymasterref16_Two.l0 k (n : Int) ((2 ^ (i + 1) : Nat) : Int) ((i + 1 : Nat) : Int)) (fun k => ?_) (ih (i + 1) (by omega))
  have h1 : 2 ^ (i + 1) ≤ 2 ^ 63 := Nat.pow_le_pow_right (by omega) (by omega)
  have h2 : 2 ^ (i + 1) = 2 * 2 ^ i := by rw [Nat.pow_succ, Nat.mul_comm]
  simp only [paymasterref16_Two.l0]; rw [if_pos (by omega), wrapu64_id (by omega) (by omega), wrap64_id (by omega) (by omega), h2]; rfl
theorem two_ev (n : Nat) (hn : n ≤ 63) : Ev (fun k => paymasterref16_Two.f k (n : Int)) ((2 ^ n : Nat) : Int) := by
 unfold paymasterref16_Two.f
 exact two_loop n hn n 0 (by omega)
theorem div_pow_ne (p : Int) (h : 0 ≤ p) (n : Nat) : (p / ((2 ^ n : Nat) : Int) ≠ 0) ↔ p ≥ ((2 ^ n : Nat) : Int) := by
 have hpos : (0 : Int) < ((2 ^ n : Nat) : Int) := by have : 0 < 2 ^ n := Nat.pow_pos (by omega); omega
 constructor
 ·
  intro hne
  rcases Int.lt_or_le p ((2 ^ n : Nat) : Int) with hlt | hge
  ·
   exact absurd (Int.ediv_eq_zero_of_lt h hlt) hne
  ·
   exact hge
 ·
  intro hge h0
  have := Int.lt_ediv_add_one_mul_self p hpos
  rw [h0] at this; omega
def shapeN (a0 a1 p : Int) (l : List SNode) : Int := if a1 < 0 ∨ a1 > 63 then 120 else if a0 < 1 ∨ a0 > 32 ∨ l.any (fun n => !nodeOf a0 n) = true then 70 else if (l.length : Int) ≠ a1 ∨ p / 2 ^ a1.toNat ≠ 0 then 160 else 0
theorem proofShape_eq (a0 a1 p : Int) (l : List SNode) : proof_Shape.f a0 a1 p l = some (shapeN a0 a1 p l) := rfl
theorem shape_loop (a0 a1 p : Int) (l : List SNode) (hp : 0 ≤ p) (h1 : 0 ≤ a1) (h2 : a1 ≤ 63) (hl : l.length ≤ 9223372036854775807) : ∀ d i : Nat, i + d = l.length →
  Ev (fun k => paymasterref16_Shape.l0 k a0 a1 (i : Int) p l) (if (l.drop i).any (fun n => !nodeOf a0 n) = true then 70 else if (l.length : Int) ≠ a1 ∨ p / 2 ^ a1.toNat ≠ 0 then 160 else 0) := by
 obtain ⟨n, rfl⟩ := Int.eq_ofNat_of_zero_le h1
 have hpow : ((2 : Int) ^ (n : Int).toNat) = ((2 ^ n : Nat) : Int) := by simp
 intro d
 induction d with
 | zero =>
  intro i hi
  rw [List.drop_of_length_le (by omega)]
  by_cases hc : (l.length : Int) = (n : Int)
  ·
   refine Ev.step (f := fun k => (paymasterref16_Two.f k (n : Int)).bind fun t114 => (if p ≥ t114 then (some 160) else (some 0))) (fun k => ?_) (Ev.bind (two_ev n (by omega)) ?_)
   ·
    simp only [paymasterref16_Shape.l0]; rw [if_neg (by omega), if_pos hc]
   ·
    rw [hpow]
    have := div_pow_ne p hp n
    by_cases hge : p ≥ ((2 ^ n : Nat) : Int)
    ·
     exact Ev.some_ (fun k => by rw [if_pos hge, if_neg (by simp), if_pos (.inr (this.2 hge))])
    ·
     exact Ev.some_ (fun k => by rw [if_neg hge, if_neg (by simp), if_neg (by rintro (h | h); exact h hc; exact hge (this.1 h))])
  ·
   refine Ev.step (f := fun _ => some 160) (fun k => ?_) (ev_eq (Ev.now 160) ?_)
   ·
    simp only [paymasterref16_Shape.l0]; rw [if_neg (by omega), if_neg hc]
   ·
    rw [if_neg (by simp), if_pos (.inl hc)]
 | succ d ih =>
  intro i hi
  have hlt : i < l.length := by omega
  rw [any_drop_succ _ l i hlt]
  cases hb : nodeOf a0 l[i] with
  | true =>
   refine Ev.step (f := fun k => paymasterref16_Shape.l0 k a0 (n : Int) ((i + 1 : Nat) : Int) p l) (fun k => ?_) (ev_eq (ih (i + 1) (by omega)) (by simp))
   simp only [paymasterref16_Shape.l0]; rw [if_pos (by omega), if_pos (by omega), rdNode_nat l i hlt, ref14Of_eq, hb]; simp only [Option.bind_some, if_true]; rw [wrap64_id (by omega) (by omega)]; rfl
  | false =>
   refine Ev.step (f := fun _ => some 70) (fun k => ?_) (ev_eq (Ev.now 70) (by simp))
   simp only [paymasterref16_Shape.l0]; rw [if_pos (by omega), if_pos (by omega), rdNode_nat l i hlt, ref14Of_eq, hb]; simp
theorem refShape_ev (a0 a1 p : Int) (l : List SNode) (hp : 0 ≤ p) (hl : l.length ≤ 9223372036854775807) : Ev (fun k => paymasterref16_Shape.f k a0 a1 p l) (shapeN a0 a1 p l) := by
 unfold paymasterref16_Shape.f shapeN
 by_cases h1 : a1 < 0
 ·
  refine Ev.congr (fun k => by rw [if_pos h1]) (Ev.step (f := fun _ => some 120) (fun k => by simp [paymasterref16_Shape.j0]) (ev_eq (Ev.now 120) (by rw [if_pos (.inl h1)])))
 by_cases h2 : a1 > 63
 ·
  refine Ev.congr (fun k => by rw [if_neg h1]) (Ev.step (f := fun _ => some 120) (fun k => by simp [paymasterref16_Shape.j0, h2]) (ev_eq (Ev.now 120) (by rw [if_pos (.inr h2)])))
 have hx : ¬(a1 < 0 ∨ a1 > 63) := by omega
 rw [if_neg hx]
 have h2' : ¬ 63 < a1 := h2
 refine Ev.congr (fun k => by rw [if_neg h1]) ?_
 by_cases h3 : a0 < 1
 ·
  refine Ev.step (f := fun k => paymasterref16_Shape.j1 k a0 a1 true p l) (fun k => by simp [paymasterref16_Shape.j0, h2', h3]) (Ev.step (f := fun _ => some 70) (fun k => by simp [paymasterref16_Shape.j1]) (ev_eq (Ev.now 70) (by rw [if_pos (.inl h3)])))
 by_cases h4 : a0 > 32
 ·
  refine Ev.step (f := fun k => paymasterref16_Shape.j1 k a0 a1 (decide (a0 > 32)) p l) (fun k => by simp [paymasterref16_Shape.j0, h2', h3]) (Ev.step (f := fun _ => some 70) (fun k => by simp [paymasterref16_Shape.j1, h4]) (ev_eq (Ev.now 70) (by rw [if_pos (.inr (.inl h4))])))
 have h4' : ¬ 32 < a0 := h4
 refine Ev.step (f := fun k => paymasterref16_Shape.j1 k a0 a1 (decide (a0 > 32)) p l) (fun k => by simp [paymasterref16_Shape.j0, h2', h3]) (Ev.step (f := fun k => paymasterref16_Shape.l0 k a0 a1 0 p l) (fun k => by simp [paymasterref16_Shape.j1, h4']) ?_)
 have := shape_loop a0 a1 p l hp (by omega) (by omega) hl l.length 0 (by omega)
 refine ev_eq this ?_
 rw [List.drop_zero]
 by_cases h5 : l.any (fun n => !nodeOf a0 n) = true
 ·
  rw [if_pos h5, if_pos (.inr (.inr h5))]
 ·
  have hn : ¬(a0 < 1 ∨ a0 > 32 ∨ l.any (fun n => !nodeOf a0 n) = true) := by
   rintro (h | h | h)
   ·
    exact h3 h
   ·
    exact h4 h
   ·
    exact h5 h
  rw [if_neg h5, if_neg hn]
end Go.Proofs.YtlmmpncdemblbaaGreatDoor.P
namespace Go.Proofs.YtlmmpncdemblbaaGreatDoor.P
open Go.RowKit Go.Proofs.YtlmmpncdemblbaaGreatDoorW.PrintWords Go.Proofs.YtlmmpncdemblbaaGreatDoorW.PrintLast Go.Proofs.YtlmmpncdemblbaaGreatDoorW.PrintMore
set_option linter.unusedVariables false
set_option linter.unusedSimpArgs false
set_option linter.unnecessarySimpa false
attribute [local go_sem] Oper.semAt_some
theorem nodesKeep {w w' : World} {A : Option Addr} {n : Nat} {l : List SNode} (h : Kd.C kNode w A n l) (hb : ∀ a, A = some a → w'.heap[a.block]? = w.heap[a.block]?) : Kd.C kNode w' A n l := by
 obtain ⟨h1, h2, h3⟩ := h
 refine ⟨h1, h2, fun h0 => ?_⟩
 obtain ⟨a, ha, hall⟩ := h3 h0
 refine ⟨a, ha, fun j p hj => ?_⟩
 obtain ⟨cs, hl, hK, hc⟩ := hall j p hj
 obtain rfl := kNode_open hK
 refine ⟨_, hl, kNode_mk w' p, fun i u hu => ?_⟩
 rw [← hc i u hu]
 refine World.cell?_of_block ?_
 have : (a.add (j * kNode.sz + i)).block = a.block := by unfold Addr.add; split <;> rfl
 rw [this]
 exact hb a ha
def KeepS (S : Nat → Prop) (W W' : World) : Prop := ∀ k, S k → W'.heap[k]? = W.heap[k]?
theorem KeepS.trans {S : Nat → Prop} {A B C : World} (h : KeepS S A B) (k : KeepS S B C) : KeepS S A C := fun i hi => (k i hi).trans (h i hi)
theorem KeepS.alloc {S : Nat → Prop} {W w : World} (h : KeepS S W w) (hlt : ∀ k, S k → k < W.heap.size) (v : Obj) : KeepS S W (w.alloc v).drew := fun k hk => by
 have h1 := h k hk
 have h2 : k < w.heap.size := by
  rw [Array.getElem?_eq_getElem (hlt k hk)] at h1
  exact (Array.getElem?_eq_some_iff.1 h1).1
 exact ((World.grownBy_alloc w v none).block k h2 (by simp)).trans h1
def rightS (p : Int) (k : Nat) : Bool := Go.bits .and .u64 (p / 2 ^ k) 1 == 0
def turnsTo (p : Int) (xs : List SNode) (k : Nat) : List (SNode × Bool) := (List.range k).map fun i => (xs.getD i ⟨ByteArray.empty, ⟨0, 0⟩⟩, rightS p i)
theorem turnsTo_succ (p : Int) (xs : List SNode) (k : Nat) (h : k < xs.length) : turnsTo p xs (k + 1) = turnsTo p xs k ++ [(xs[k], rightS p k)] := by
 simp [turnsTo, List.range_succ, List.getD_eq_getElem?_getD, h]
theorem turnsTo_length (p : Int) (xs : List SNode) (k : Nat) : (turnsTo p xs k).length = k := by simp [turnsTo]
abbrev turnV (x : SNode × Bool) : Array Value := #[nodeV x.1, .bool x.2]
theorem grown_drew (W : World) : W.grownBy W.drew none := ⟨rfl, rfl, rfl, Nat.le_refl _, fun _ _ _ => rfl⟩
theorem bar_none {w w1 w2 : World} (h : w.grownBy w1 none) (k : w1.grownBy w2 none) : w.grownBy w2 none :=
 ⟨k.os.trans h.os, k.tape.trans h.tape, k.output.trans h.output, Nat.le_trans h.size k.size, fun i hi hn => (k.block i (lL' hi h.size) hn).trans (h.block i hi hn)⟩
set_option maxRecDepth 100000 in
set_option maxHeartbeats 400000 in
theorem turns1_in (F : Fence) (n : Nat) (hf : F.fn 69) (hro : F.round = none) (hn : 1 ≤ n) (l sb pb B : Nat) (p : Int) (hp : 0 ≤ p) (A : Option Addr) (c : Nat) (xs : List SNode) (hx63 : xs.length ≤ 63) (S : Nat → Prop) (hSs : S sb) (hSp : S pb) (hSA : 0 < xs.length → ∀ a, A = some a → S a.block) (Ok : SNode → Prop) (hok : ∀ x ∈ xs, Ok x)
  (J Jx : List (SNode × Bool) → World → Prop) (hJ : AbidesFrom B J)
  (hY : ∀ pre x W, Ok x.1 → J pre W → pre.length < xs.length → YieldAt F (n - 1) Tryz.prog l (turnV x) W fun e W' => (e = .returned (.bool true) ∧ J (pre ++ [x]) W' ∧ KeepS S W W') ∨ (e = .returned (.bool false) ∧ Jx (pre ++ [x]) W'))
  (W : World) (hs : W.heap[sb]? = some (.cells #[.slice A xs.length c] 35 (0, 0))) (hpb : W.heap[pb]? = some (.cells #[.int .u64 p] 22 (0, 0))) (hr : Kd.C kNode W A xs.length xs) (hlt : ∀ k, S k → k < W.heap.size) (h0 : J [] W) :
  CallsIn F n Tryz.prog 69 #[.func (.yield l) #[] #[], .pointer (some ⟨sb, 0, none⟩), .pointer (some ⟨pb, 0, none⟩)] W fun e W' => (∃ v, e = .returned v) ∧ ((∃ ys, ys = turnsTo p xs xs.length ∧ J ys W') ∨ (∃ pre, (∃ k, k ≤ xs.length ∧ pre = turnsTo p xs k) ∧ Jx pre W')) := by
 obtain ⟨Ff, Fd, Fa, Fr⟩ := F
 obtain rfl : Fr = none := hro
 have hs0 : W.cell? ⟨sb, 0, none⟩ = some (.slice A xs.length c) := blk_cell hs 0
 have HS := aM' hs
 have HP := aM' hpb
 have HR := aM' hr
 have HL := aM' hlt
 have HJ := aM' hJ
 have HY := aM' hY
 have HOK := aM' hok
 clear hok
 clear hs hpb hr hlt hJ hY
 refine callsIn_of_wp Tryz.func69 rfl hf ?_
 simp only [Tryz.ntmps69, List.size_toArray, List.length_cons, List.length_nil, Nat.reduceAdd, Nat.reduceSub, Array.replicate_succ, Array.replicate_zero, List.push_toArray, List.append_toArray, List.nil_append, List.cons_append]
 gi_wp2
 clear hs0
 gi_loopw [8] (fun i wr => ∃ k : Nat, k ≤ xs.length ∧ i = .int .i64 k ∧ Aside0 (J (turnsTo p xs k) wr) ∧ Aside0 (KeepS S W wr)) (fun i _ => xs.length - (intOf i).toNat)
 case atStart => exact ⟨0, Nat.zero_le _, rfl, ⟨h0⟩, ⟨fun _ _ => rfl⟩⟩
 case round =>
  obtain ⟨k, hk, rfl, HJs, HK⟩ := hrel
  by_cases hlt : k < xs.length
  ·
   have b1 : decide ((k : Int) < (xs.length : Int)) = true := decide_eq_true (by omega)
   have p1 : 0 ≤ (k : Int) := by omega
   have p2 : (k : Int) < (xs.length : Int) := by omega
   have hr2 : Kd.C kNode wr A xs.length xs := nodesKeep HR.out (fun a ha => HK.out _ (hSA (by omega) a ha))
   obtain ⟨ad, e, hx0, hx1, hx2⟩ := at_TNode hr2 (k : Int) p1 p2
   rw [rd_TNode_at xs k hlt, Int.toNat_natCast] at hx0 hx1 hx2
   obtain ⟨x, hx⟩ : ∃ x, x = xs[k] := ⟨_, rfl⟩
   rw [← hx] at hx0 hx1 hx2
   have hp0 : wr.cell? ⟨pb, 0, none⟩ = some (.int .u64 p) := blk_cell ((HK.out pb hSp).trans HP.out) 0
   have hpl : pb < wr.heap.size := blk_lt ((HK.out pb hSp).trans HP.out)
   have hpn : pb ≠ wr.heap.size := Nat.ne_of_lt hpl
   have HX := aM' hx
   have hokx : Ok x := by rw [hx]; exact HOK.out _ (List.getElem_mem _)
   clear hx
   cases e
   have hg1 : wr.grownBy (wr.alloc (.cells #[.string x.f0, .int .u64 x.f1.f0, .int .u64 x.f1.f1] 67)).drew none := bar_none (World.grownBy_alloc wr _ none) (grown_drew _)
   obtain ⟨fn, tmps, assign, body, hy, hR⟩ := HY.out (turnsTo p xs k) (x, rightS p k) (wr.alloc (.cells #[.string x.f0, .int .u64 x.f1.f0, .int .u64 x.f1.f1] 67)).drew hokx (HJ.out _ wr _ none HJs.out hg1 (fun r e => by cases e)) (by rw [turnsTo_length]; exact hlt)
   have hy2 : (Instr.yield l #[.agg #[.string x.f0, .int .u64 x.f1.f0, .int .u64 x.f1.f1], .bool (Go.bits .and .u64 (p / 2 ^ k) 1 == 0)]).run Tryz.prog (wr.alloc (.cells #[.string x.f0, .int .u64 x.f1.f0, .int .u64 x.f1.f1] 67)).drew = .ok (.round l fn tmps assign body) (wr.alloc (.cells #[.string x.f0, .int .u64 x.f1.f0, .int .u64 x.f1.f1] 67)).drew := hy
   have hR2 := hR.mono (fun e W' h => (show ∃ b : Bool, e = .returned (.bool b) ∧ Aside0 ((b = true ∧ J (turnsTo p xs k ++ [(x, rightS p k)]) W' ∧ KeepS S (wr.alloc (.cells #[.string x.f0, .int .u64 x.f1.f0, .int .u64 x.f1.f1] 67)).drew W') ∨ (b = false ∧ Jx (turnsTo p xs k ++ [(x, rightS p k)]) W')) from
    h.elim (fun h => ⟨true, h.1, ⟨.inl ⟨rfl, h.2⟩⟩⟩) (fun h => ⟨false, h.1, ⟨.inr ⟨rfl, h.2⟩⟩⟩)))
   clear hy hR
   gi_wp2
   clear hg1 hr2
   gi_region_with (refine hR2.mono ?_; clear hR2 hy2 hx0 hx1 hx2 hp0 b1 p1 p2 hpn hpl; rintro e W3 ⟨b, rfl, HE⟩)
   all_goals
    have HKW := aM' (HK.out.alloc HL.out (.cells #[.string x.f0, .int .u64 x.f1.f0, .int .u64 x.f1.f1] 67))
    have HE2 := aM' (show turnsTo p xs (k + 1) = turnsTo p xs k ++ [(x, rightS p k)] by rw [turnsTo_succ p xs k hlt, HX.out])
    cases b with
    | true =>
     obtain ⟨-, hJ2, hK2⟩ | ⟨h, -⟩ := HE.out
     case inr => exact absurd h (by decide)
     have HJ2 := aM' hJ2
     have HK2 := aM' hK2
     clear hJ2 hK2
     gi_wp2
     exact ⟨⟨k + 1, hlt, rfl, ⟨by rw [HE2.out]; exact HJ2.out⟩, ⟨HKW.out.trans HK2.out⟩⟩, by simp [intOf]; omega⟩
    | false =>
     obtain ⟨h, -⟩ | ⟨-, hJ2⟩ := HE.out
     case inl => exact absurd h (by decide)
     have HJ2 := aM' hJ2
     clear hJ2
     gi_wp2
     refine bodyPost_ret (results_none rfl _ _ _) rfl ?_
     exact ⟨⟨_, rfl⟩, .inr ⟨_, ⟨k + 1, hlt, HE2.out.symm⟩, HJ2.out⟩⟩
  ·
   have b1 : decide ((k : Int) < (xs.length : Int)) = false := decide_eq_false (by omega)
   obtain rfl : k = xs.length := by omega
   gi_wp2
   go_end0
   exact ⟨⟨_, rfl⟩, .inl ⟨_, rfl, HJs.out⟩⟩
end Go.Proofs.YtlmmpncdemblbaaGreatDoor.P
namespace Go.Proofs.YtlmmpncdemblbaaGreatDoor.P
open Go.RowKit Go.Proofs.YtlmmpncdemblbaaGreatDoorW.PrintWords Go.Proofs.YtlmmpncdemblbaaGreatDoorW.PrintLast Go.Proofs.YtlmmpncdemblbaaGreatDoorW.PrintMore
set_option linter.unusedVariables false
set_option linter.unusedSimpArgs false
set_option linter.unnecessarySimpa false
theorem all1.calls (wd : Int) (B : Nat) (x : SNode) (W : World) (hB : W.heap[B]? = some (.cells #[.int .i64 wd] 3 (0, 0))) :
  Calls Tryz.prog 68 #[nodeV x, .pointer (some ⟨B, 0, none⟩)] W fun e W' => e = .returned (.bool (!nodeOf wd x)) ∧ Below W.heap.size W W' := by
 have hc : W.cell? ⟨B, 0, none⟩ = some (.int .i64 wd) := blk_cell hB 0
 have hlt : B < W.heap.size := blk_lt hB
 have hne : B ≠ W.heap.size := Nat.ne_of_lt hlt
 go_enter Tryz.func68, Tryz.ntmps68
 go_wp2_with fail
 refine (node_Of.calls wd x.f0 x.f1.f0 x.f1.f1 (nodeOf wd x) _ (node_Of_eq wd x)).mono ?_
 rintro e w1 ⟨rfl, hb⟩
 go_wp2
 go_ret
 exact ⟨rfl, (below_alloc (Below.refl _ _) _).trans (hb.mono (by simp))⟩
set_option maxRecDepth 100000 in
set_option maxHeartbeats 1000000 in
theorem all.calls (wd : Int) (A : Option Addr) (c : Nat) (l : List SNode) (w : World) (hr : Kd.C kNode w A l.length l) :
  Calls Tryz.prog 51 #[.int .i64 wd, .slice A l.length c] w fun e w' => e = .returned (.bool (decide (1 ≤ wd) && (decide (wd ≤ 32) && l.all (nodeOf wd)))) ∧ Below w.heap.size w w' := by
 have HR := aM' hr
 clear hr
 have e0 : (!l.any fun x => !nodeOf wd x) = l.all (nodeOf wd) := by rw [List.all_eq_not_any_not]
 go_enter Tryz.func51, Tryz.ntmps51
 by_cases h1 : 1 ≤ wd
 ·
  have b1 : decide (1 ≤ wd) = true := decide_eq_true h1
  by_cases h2 : wd ≤ 32
  ·
   have b2 : decide (wd ≤ 32) = true := decide_eq_true h2
   go_wp2_with fail
   have hcb : (w.alloc (.cells #[.int .i64 wd] 3)).heap[w.heap.size]? = some (.cells #[.int .i64 wd] 3 (0, 0)) := blk_new w _
   have hB0 : Below w.heap.size w (w.alloc (.cells #[.int .i64 wd] 3)) := below_alloc (Below.refl _ _) _
   refine (anyNode.calls 68 _ (fun x => !nodeOf wd x) A c l _ (Kd.C_below HR.out hB0) (fun _ _ => enters_of Tryz.func68 (by kernel_rfl) rfl _ _) (fun W x hW => all1.calls wd w.heap.size x W (blk_below hcb hW))).mono ?_
   rintro e w1 ⟨rfl, hb⟩
   have HB1 := aM' (hB0.trans (hb.mono hB0.size))
   clear hb hcb hB0
   go_wp2_with fail
   go_ret
   exact ⟨by simp only [b1, b2, Bool.true_and]; rw [← e0]; rfl, HB1.out⟩
  ·
   have b2 : decide (wd ≤ 32) = false := decide_eq_false h2
   go_wp2_with fail
   go_ret
   exact ⟨by simp [b2], below_alloc (Below.refl _ _) _⟩
 ·
  have b1 : decide (1 ≤ wd) = false := decide_eq_false h1
  go_wp2_with fail
  go_ret
  exact ⟨by simp [b1], below_alloc (Below.refl _ _) _⟩
end Go.Proofs.YtlmmpncdemblbaaGreatDoor.P
namespace Go.Proofs.YtlmmpncdemblbaaGreatDoor.P
open Go.RowKit Go.Proofs.YtlmmpncdemblbaaGreatDoorW.PrintWords Go.Proofs.YtlmmpncdemblbaaGreatDoorW.PrintLast Go.Proofs.YtlmmpncdemblbaaGreatDoorW.PrintMore
set_option linter.unusedVariables false
set_option linter.unusedSimpArgs false
set_option linter.unnecessarySimpa false
attribute [local go_sem] Oper.semAt_some
theorem turns.calls (p : Int) (A : Option Addr) (m c : Nat) (w : World) : Calls Tryz.prog 52 #[.int .u64 p, .slice A m c] w fun e w' => e = .returned (.func (.func 69) #[] #[.pointer (some ⟨w.heap.size + 1, 0, none⟩), .pointer (some ⟨w.heap.size, 0, none⟩)]) ∧ w' = (w.alloc (.cells #[.int .u64 p] 22)).alloc (.cells #[.slice A m c] 35) := by
 go_enter Tryz.func52, Tryz.ntmps52
 go_wp2
 go_ret
 exact ⟨rfl, rfl⟩
def stepI (w : Int) (n : SNode) (x : SNode × Bool) : ByteArray × Int × Int × Int := if x.2 then joinI w n x.1 else joinI w x.1 n
abbrev nodeJ (j : ByteArray × Int × Int × Int) : SNode := ⟨j.1, ⟨j.2.1, j.2.2.1⟩⟩
def climbL (w : Int) : SNode → List (SNode × Bool) → ByteArray × Int × Int × Int
 | n, [] => (n.f0, n.f1.f0, n.f1.f1, 0)
 | n, x :: xs => if (stepI w n x).2.2.2 = 0 then climbL w (nodeJ (stepI w n x)) xs else (⟨#[]⟩, 0, 0, (stepI w n x).2.2.2)
def climbI (w : Int) (n : SNode) (p : Int) (l : List SNode) : ByteArray × Int × Int × Int :=
 if nodeOf w n = true ∧ l.all (nodeOf w) = true then (if 63 < l.length then (⟨#[]⟩, 0, 0, 2) else climbL w n (turnsTo p l l.length)) else (⟨#[]⟩, 0, 0, 70)
def upTo (w : Int) : SNode → List (SNode × Bool) → Option SNode
 | n, [] => some n
 | n, x :: xs => if (stepI w n x).2.2.2 = 0 then upTo w (nodeJ (stepI w n x)) xs else none
theorem climbL_up (w : Int) (rest : List (SNode × Bool)) : ∀ (pre : List (SNode × Bool)) (n st : SNode), upTo w n pre = some st → climbL w n (pre ++ rest) = climbL w st rest
 | [], n, st, h => by cases h; rfl
 | x :: xs, n, st, h => by
  unfold upTo at h
  split at h
  ·
   rename_i h0
   show climbL w n (x :: (xs ++ rest)) = _
   unfold climbL
   rw [if_pos h0]
   have := climbL_up w rest xs _ st h
   rw [this]
   cases rest <;> rfl
  ·
   cases h
theorem upTo_snoc (w : Int) (x : SNode × Bool) : ∀ (pre : List (SNode × Bool)) (n st : SNode), upTo w n pre = some st → (stepI w st x).2.2.2 = 0 → upTo w n (pre ++ [x]) = some (nodeJ (stepI w st x))
 | [], n, st, h, h0 => by cases h; show upTo w n [x] = _; unfold upTo; rw [if_pos h0]; rfl
 | y :: ys, n, st, h, h0 => by
  unfold upTo at h
  split at h
  ·
   rename_i h1
   show upTo w n (y :: (ys ++ [x])) = _
   unfold upTo
   rw [if_pos h1]
   exact upTo_snoc w x ys _ st h h0
  ·
   cases h
theorem turnsTo_pre (p : Int) (l : List SNode) (k : Nat) : ∀ d, ∃ rest, turnsTo p l (k + d) = turnsTo p l k ++ rest
 | 0 => ⟨[], by simp⟩
 | d + 1 => by
  obtain ⟨r, hr⟩ := turnsTo_pre p l k d
  refine ⟨r ++ [(l.getD (k + d) ⟨ByteArray.empty, ⟨0, 0⟩⟩, rightS p (k + d))], ?_⟩
  rw [← List.append_assoc, ← hr]
  simp [turnsTo, ← Nat.add_assoc, List.range_succ]
theorem addI128_ok (a b c d : Int) (ha : 0 ≤ a) (hb : 0 ≤ b) (hc : 0 ≤ c) (hd : 0 ≤ d) : 0 ≤ (addI128 a b c d).1 ∧ (addI128 a b c d).1 < 18446744073709551616 ∧ 0 ≤ (addI128 a b c d).2.1 ∧ (addI128 a b c d).2.1 < 18446744073709551616 := by
 unfold addI128
 split
 ·
  refine ⟨?_, ?_, ?_, ?_⟩ <;> dsimp only <;> omega
 ·
  refine ⟨?_, ?_, ?_, ?_⟩ <;> dsimp only <;> omega
theorem joinI_ok (w : Int) (l r : SNode) (ul : OkU l.f1) (ur : OkU r.f1) : OkU (nodeJ (joinI w l r)).f1 := by
 have h := addI128_ok l.f1.f0 l.f1.f1 r.f1.f0 r.f1.f1 ul.h0.1 ul.h1.1 ur.h0.1 ur.h1.1
 unfold joinI
 split
 ·
  split
  ·
   exact ⟨⟨h.1, h.2.1⟩, ⟨h.2.2.1, h.2.2.2⟩⟩
  ·
   exact ⟨⟨by simp, by simp⟩, ⟨by simp, by simp⟩⟩
 ·
  exact ⟨⟨by simp, by simp⟩, ⟨by simp, by simp⟩⟩
abbrev nodeA (n : SNode) : Array Value := #[.string n.f0, .int .u64 n.f1.f0, .int .u64 n.f1.f1]
structure Clim (w : World) (wd : Int) (st r2 : SNode) (r3 : Int) (W : World) : Prop where
 h0 : W.heap[w.heap.size]? = some (.cells #[.int .i64 wd] 3 (0, 0))
 h1 : W.heap[w.heap.size + 1]? = some (.cells (nodeA st) 67 (0, 0))
 h2 : W.heap[w.heap.size + 1 + 1]? = some (.cells (nodeA r2) 67 (0, 0))
 h3 : W.heap[w.heap.size + 1 + 1 + 1]? = some (.cells #[.int .i64 r3] 29 (0, 0))
 hB : Below w.heap.size w W
theorem Clim.lt {w W : World} {wd r3 : Int} {st r2 : SNode} (h : Clim w wd st r2 r3 W) : w.heap.size + 1 + 1 + 1 < W.heap.size := blk_lt h.h3
theorem Clim.below {w W W' : World} {wd r3 : Int} {st r2 : SNode} (h : Clim w wd st r2 r3 W) (hb : Below W.heap.size W W') : Clim w wd st r2 r3 W' :=
 ⟨blk_below h.h0 hb, blk_below h.h1 hb, blk_below h.h2 hb, blk_below h.h3 hb, h.hB.trans (hb.mono h.hB.size)⟩
theorem Clim.own {w X Y : World} {wd r3 : Int} {st r2 : SNode} {B : Nat} {row : Option Nat} (h : Clim w wd st r2 r3 X) (hg : X.grownBy Y row) (hlt : w.heap.size + 1 + 1 + 1 < B) (hr : ∀ r, row = some r → B ≤ r) : Clim w wd st r2 r3 Y := by
 have hl := h.lt
 have hk : ∀ k, k ≤ w.heap.size + 1 + 1 + 1 → Y.heap[k]? = X.heap[k]? := fun k hk => hg.block k (by omega) (fun e => by have := hr k e.symm; omega)
 exact ⟨(hk _ (by omega)).trans h.h0, (hk _ (by omega)).trans h.h1, (hk _ (by omega)).trans h.h2, (hk _ (by omega)).trans h.h3, ⟨hg.os.trans h.hB.os, hg.tape.trans h.hB.tape, hg.output.trans h.hB.output, Nat.le_trans h.hB.size hg.size, fun i hi => (hk i (by omega)).trans (h.hB.block i hi)⟩⟩
theorem climb_results (tmps : Array Value) (W : World) (g2 g3 : Nat) (x y z e : Value) (h8 : tmps.getD 8 undef = .pointer (some ⟨g2, 0, none⟩)) (h9 : tmps.getD 9 undef = .pointer (some ⟨g3, 0, none⟩)) (hg2 : W.heap[g2]? = some (.cells #[x, y, z] 67 (0, 0))) (hg3 : W.heap[g3]? = some (.cells #[e] 29 (0, 0))) :
  (results Tryz.f35 tmps).run Tryz.prog W = .ok (.tuple #[.agg #[x, y, z], e]) W := by
 have h8' : tmps[8]?.getD undef = .pointer (some ⟨g2, 0, none⟩) := by simpa using h8
 have h9' : tmps[9]?.getD undef = .pointer (some ⟨g3, 0, none⟩) := by simpa using h9
 have hr : Tryz.f35.results = #[.cell 8 67, .cell 9 29] := rfl
 have hc : W.cell? ⟨g3, 0, none⟩ = some e := blk_cell hg3 0
 have h1 := run_loadVar_row W g2 67 67 #[x, y, z] (0, 0) _ hg2 Tryz.underlying67 rfl (by kernel_rfl)
 have hu := Tryz.underlying29
 have h2 : (loadVar 29 ⟨g3, 0, none⟩).run Tryz.prog W = .ok e W := by
  go_simp
 simp [results, hr, h8', h9', asAddr, h1, h2]
theorem Clim.put {w W : World} {wd r3 : Int} {st r2 : SNode} (h : Clim w wd st r2 r3 W) (x : SNode) (e : Int) :
  Clim w wd st x e ((((W.setCell ⟨w.heap.size + 1 + 1, 0, none⟩ (.string x.f0)).setCell ⟨w.heap.size + 1 + 1, 1, none⟩ (.int .u64 x.f1.f0)).setCell ⟨w.heap.size + 1 + 1, 2, none⟩ (.int .u64 x.f1.f1)).setCell ⟨w.heap.size + 1 + 1 + 1, 0, none⟩ (.int .i64 e)) := by
 have a1 := blk_put (cs' := nodeA ⟨x.f0, r2.f1⟩) h.h2 0 (.string x.f0) rfl
 have a2 := blk_put (cs' := nodeA ⟨x.f0, ⟨x.f1.f0, r2.f1.f1⟩⟩) a1 1 (.int .u64 x.f1.f0) rfl
 have a3 := blk_put (cs' := nodeA x) a2 2 (.int .u64 x.f1.f1) rfl
 exact ⟨blk_far (blk_far (blk_far (blk_far h.h0 (by (try dsimp only); omega) _) (by (try dsimp only); omega) _) (by (try dsimp only); omega) _) (by (try dsimp only); omega) _, blk_far (blk_far (blk_far (blk_far h.h1 (by (try dsimp only); omega) _) (by (try dsimp only); omega) _) (by (try dsimp only); omega) _) (by (try dsimp only); omega) _,
  blk_far a3 (by (try dsimp only); omega) _, blk_put (blk_far (blk_far (blk_far h.h3 (by (try dsimp only); omega) _) (by (try dsimp only); omega) _) (by (try dsimp only); omega) _) 0 (.int .i64 e) rfl,
  below_set (below_set (below_set (below_set h.hB (by (try dsimp only); omega)) (by (try dsimp only); omega)) (by (try dsimp only); omega)) (by (try dsimp only); omega)⟩
theorem Clim.step {w W : World} {wd r3 : Int} {st r2 : SNode} (h : Clim w wd st r2 r3 W) (x : SNode) :
  Clim w wd x r2 r3 (((W.setCell ⟨w.heap.size + 1, 0, none⟩ (.string x.f0)).setCell ⟨w.heap.size + 1, 1, none⟩ (.int .u64 x.f1.f0)).setCell ⟨w.heap.size + 1, 2, none⟩ (.int .u64 x.f1.f1)) := by
 have a1 := blk_put (cs' := nodeA ⟨x.f0, st.f1⟩) h.h1 0 (.string x.f0) rfl
 have a2 := blk_put (cs' := nodeA ⟨x.f0, ⟨x.f1.f0, st.f1.f1⟩⟩) a1 1 (.int .u64 x.f1.f0) rfl
 have a3 := blk_put (cs' := nodeA x) a2 2 (.int .u64 x.f1.f1) rfl
 exact ⟨blk_far (blk_far (blk_far h.h0 (by (try dsimp only); omega) _) (by (try dsimp only); omega) _) (by (try dsimp only); omega) _, a3, blk_far (blk_far (blk_far h.h2 (by (try dsimp only); omega) _) (by (try dsimp only); omega) _) (by (try dsimp only); omega) _, blk_far (blk_far (blk_far h.h3 (by (try dsimp only); omega) _) (by (try dsimp only); omega) _) (by (try dsimp only); omega) _,
  below_set (below_set (below_set h.hB (by (try dsimp only); omega)) (by (try dsimp only); omega)) (by (try dsimp only); omega)⟩
theorem climb_ret {w W : World} {wd r3 : Int} {st r2 : SNode} {tmps : Array Value} {R : Ending → World → Prop} (h : Clim w wd st r2 r3 W) (h8 : tmps.getD 8 undef = .pointer (some ⟨w.heap.size + 1 + 1, 0, none⟩)) (h9 : tmps.getD 9 undef = .pointer (some ⟨w.heap.size + 1 + 1 + 1, 0, none⟩))
  (hR : R (.returned (.tuple #[nodeV r2, .int .i64 r3])) W) : bodyPostM Fence.wide 3 Tryz.prog Tryz.f35 R .ret { tmps := tmps, defers := [] } W :=
 ⟨_, climb_results _ _ _ _ _ _ _ _ h8 h9 h.h2 h.h3, hR⟩
theorem blk_res {W : World} {B2 B3 D : Nat} {o : Obj} (h : W.heap[D]? = some o) (h2 : D ≠ B2) (h3 : D ≠ B3) (a b c d : Value) :
  ((((W.setCell ⟨B2, 0, none⟩ a).setCell ⟨B2, 1, none⟩ b).setCell ⟨B2, 2, none⟩ c).setCell ⟨B3, 0, none⟩ d).heap[D]? = some o := by
 rw [Below.heap_setCell _ _ _ _ h3, Below.heap_setCell _ _ _ _ h2, Below.heap_setCell _ _ _ _ h2, Below.heap_setCell _ _ _ _ h2]
 exact h
theorem climb_retD {w W : World} {wd r3 : Int} {st r2 : SNode} {tmps : Array Value} {R : Ending → World → Prop} {D : Nat} (h : Clim w wd st r2 r3 W) (hD : w.heap.size + 1 + 1 + 1 < D) (hdf : W.heap[D]? = some (.deferred (some []))) (h8 : tmps.getD 8 undef = .pointer (some ⟨w.heap.size + 1 + 1, 0, none⟩)) (h9 : tmps.getD 9 undef = .pointer (some ⟨w.heap.size + 1 + 1 + 1, 0, none⟩))
  (hR : ∀ W', Below w.heap.size w W' → R (.returned (.tuple #[nodeV r2, .int .i64 r3])) W') : bodyPostM Fence.wide 3 Tryz.prog Tryz.f35 R .ret { tmps := tmps, defers := [{ target := .collected D, args := #[] }] } W := by
 refine ⟨by simp, .inl ⟨_, _, rfl, run_takeDeferred hdf, ?_⟩⟩
 refine ⟨_, climb_results _ _ _ _ _ _ _ _ h8 h9 ((World.putObj_heap_other (by omega)).trans h.h2) ((World.putObj_heap_other (by omega)).trans h.h3), hR _ ?_⟩
 exact ⟨h.hB.os, h.hB.tape, h.hB.output, by simpa using h.hB.size, fun i hi => (World.putObj_heap_other (by omega)).trans (h.hB.block i hi)⟩
theorem put3 {W : World} {g : Nat} {z : SNode} (h : W.heap[g]? = some (.cells (nodeA z) 67 (0, 0))) (x : SNode) :
  (((W.setCell ⟨g, 0, none⟩ (.string x.f0)).setCell ⟨g, 1, none⟩ (.int .u64 x.f1.f0)).setCell ⟨g, 2, none⟩ (.int .u64 x.f1.f1)).heap[g]? = some (.cells (nodeA x) 67 (0, 0)) := by
 have a1 := blk_put (cs' := nodeA ⟨x.f0, z.f1⟩) h 0 (.string x.f0) rfl
 have a2 := blk_put (cs' := nodeA ⟨x.f0, ⟨x.f1.f0, z.f1.f1⟩⟩) a1 1 (.int .u64 x.f1.f0) rfl
 exact blk_put (cs' := nodeA x) a2 2 (.int .u64 x.f1.f1) rfl
theorem far3 {W : World} {g k : Nat} {o : Obj} (h : W.heap[k]? = some o) (hn : k ≠ g) (a b c : Value) : (((W.setCell ⟨g, 0, none⟩ a).setCell ⟨g, 1, none⟩ b).setCell ⟨g, 2, none⟩ c).heap[k]? = some o := by
 rw [Below.heap_setCell _ _ _ _ hn, Below.heap_setCell _ _ _ _ hn, Below.heap_setCell _ _ _ _ hn]
 exact h
theorem below3 {W V : World} (h : Below W.heap.size W V) {g : Nat} (hg : W.heap.size ≤ g) (a b c : Value) : Below W.heap.size W (((V.setCell ⟨g, 0, none⟩ a).setCell ⟨g, 1, none⟩ b).setCell ⟨g, 2, none⟩ c) :=
 below_set (below_set (below_set h hg) hg) hg
structure Two (W : World) (b12 b13 : Nat) (x s : SNode) (W' : World) : Prop where
 ne : b12 ≠ b13
 l12 : W.heap.size ≤ b12
 l13 : W.heap.size ≤ b13
 hB : Below W.heap.size W W'
 h12 : W'.heap[b12]? = some (.cells (nodeA x) 67 (0, 0))
 h13 : W'.heap[b13]? = some (.cells (nodeA s) 67 (0, 0))
theorem Two.put {W V : World} {b12 b13 : Nat} {x s : SNode} (h : Two W b12 b13 x s V) (x' s' : SNode) :
  Two W b12 b13 x' s' ((((((V.setCell ⟨b12, 0, none⟩ (.string x'.f0)).setCell ⟨b12, 1, none⟩ (.int .u64 x'.f1.f0)).setCell ⟨b12, 2, none⟩ (.int .u64 x'.f1.f1)).setCell ⟨b13, 0, none⟩ (.string s'.f0)).setCell ⟨b13, 1, none⟩ (.int .u64 s'.f1.f0)).setCell ⟨b13, 2, none⟩ (.int .u64 s'.f1.f1)) :=
 ⟨h.ne, h.l12, h.l13, below3 (below3 h.hB h.l12 _ _ _) h.l13 _ _ _, far3 (put3 h.h12 x') h.ne _ _ _, put3 (far3 h.h13 (Ne.symm h.ne) _ _ _) s'⟩
theorem climb_twoA (W : World) (x s : SNode) : Two W W.heap.size (W.heap.size + 1) x s ((W.alloc (.cells #[.string x.f0, .int .u64 x.f1.f0, .int .u64 x.f1.f1] 67)).alloc (.cells #[.string s.f0, .int .u64 s.f1.f0, .int .u64 s.f1.f1] 67)).drew := by
 have h0 := blk_drew (blk_alloc (blk_new W (.cells (nodeA x) 67)) (.cells (nodeA s) 67))
 have h1 := blk_new (W.alloc (.cells (nodeA x) 67)) (.cells (nodeA s) 67)
 rw [World.size_alloc] at h1
 exact ⟨by omega, by omega, by omega, below_drew (below_alloc (below_alloc (Below.refl _ _) _) _), h0, blk_drew h1⟩
theorem climb_twoB (W : World) (x s : SNode) : Two W (W.heap.size + 1) W.heap.size x s ((W.alloc (.cells #[.string s.f0, .int .u64 s.f1.f0, .int .u64 s.f1.f1] 67)).alloc (.cells #[.string x.f0, .int .u64 x.f1.f0, .int .u64 x.f1.f1] 67)).drew := by
 have h := climb_twoA W s x
 exact ⟨by omega, by omega, by omega, h.hB, h.h13, h.h12⟩
abbrev OkX := { x : SNode × Bool // OkU x.1.f1 }
def climbS (w2 : World) (A : Option Addr) (l : List SNode) (k : Nat) : Prop := k = w2.heap.size + 1 ∨ k = w2.heap.size ∨ (0 < l.length ∧ ∃ a, A = some a ∧ k = a.block)
theorem nodes_block {w : World} {a : Addr} {l : List SNode} (h : Kd.C kNode w (some a) l.length l) (h0 : 0 < l.length) : a.block < w.heap.size := by
 obtain ⟨ad, e, hx, -, -⟩ := at_TNode h 0 (by omega) (by omega)
 cases e
 have := bL' _ _ hx
 unfold Addr.add at this
 split at this <;> exact this
set_option maxRecDepth 100000 in
set_option maxHeartbeats 2000000 in
theorem climb.calls (wd : Int) (n : SNode) (p : Int) (A : Option Addr) (c : Nat) (l : List SNode) (w : World) (hK : Laid w) (hr : Kd.C kNode w A l.length l) (hp : 0 ≤ p) (un : OkU n.f1) (ul : ∀ x ∈ l, OkU x.f1) :
  Calls Tryz.prog 35 #[.int .i64 wd, nodeV n, .int .u64 p, .slice A l.length c] w fun e w' => e = .returned (.tuple #[nodeV (nodeJ (climbI wd n p l)), .int .i64 (climbI wd n p l).2.2.2]) ∧ Below w.heap.size w w' := by
 have HR := aM' hr
 have HK := aM' hK
 have UN := aM' un
 have UL := aM' ul
 clear hr hK un ul
 refine (callsIn_wide (n := 3)).1 ?_
 refine callsIn_of_wp_marks Tryz.func35 rfl trivial ?_ rfl
 simp only [Tryz.ntmps35, List.size_toArray, List.length_cons, List.length_nil, Nat.reduceAdd, Nat.reduceSub, Array.replicate_succ, Array.replicate_zero, List.push_toArray, List.append_toArray, List.nil_append, List.cons_append]
 gi_wp2_with fail
 refine ⟨trivial, ?_⟩
 refine (callsIn_wide.2 (node_Of.calls wd n.f0 n.f1.f0 n.f1.f1 (nodeOf wd n) _ (node_Of_eq wd n))).mono ?_
 rintro e w1 ⟨rfl, hb⟩
 have hB0 : Below w.heap.size w w1 := (below_alloc (below_alloc (below_alloc (below_alloc (Below.refl _ _) _) _) _) _).trans (hb.mono (by simp; omega))
 have hw0 : w1.heap[w.heap.size]? = some (.cells #[.int .i64 wd] 3 (0, 0)) := blk_below (blk_alloc (blk_alloc (blk_alloc (blk_new w _) _) _) _) hb
 have hw1 : w1.heap[w.heap.size + 1]? = some (.cells #[.string n.f0, .int .u64 n.f1.f0, .int .u64 n.f1.f1] 67 (0, 0)) := by
  refine blk_below (blk_alloc (blk_alloc ?_ _) _) hb
  have := blk_new (w.alloc (.cells #[.int .i64 wd] 3)) (.cells #[.string n.f0, .int .u64 n.f1.f0, .int .u64 n.f1.f1] 67)
  rwa [World.size_alloc] at this
 have hw2 : w1.heap[w.heap.size + 1 + 1]? = some (.cells #[.string ⟨#[]⟩, .int .u64 0, .int .u64 0] 67 (0, 0)) := by
  refine blk_below (blk_alloc ?_ _) hb
  have := blk_new ((w.alloc (.cells #[.int .i64 wd] 3)).alloc (.cells #[.string n.f0, .int .u64 n.f1.f0, .int .u64 n.f1.f1] 67)) (.cells #[.string ⟨#[]⟩, .int .u64 0, .int .u64 0] 67)
  rwa [World.size_alloc, World.size_alloc] at this
 have hw3 : w1.heap[w.heap.size + 1 + 1 + 1]? = some (.cells #[.int .i64 0] 29 (0, 0)) := by
  refine blk_below ?_ hb
  have := blk_new (((w.alloc (.cells #[.int .i64 wd] 3)).alloc (.cells #[.string n.f0, .int .u64 n.f1.f0, .int .u64 n.f1.f1] 67)).alloc (.cells #[.string ⟨#[]⟩, .int .u64 0, .int .u64 0] 67)) (.cells #[.int .i64 0] 29)
  rwa [World.size_alloc, World.size_alloc, World.size_alloc] at this
 have hC : Clim w wd n ⟨⟨#[]⟩, ⟨0, 0⟩⟩ 0 w1 := ⟨hw0, hw1, hw2, hw3, hB0⟩
 have HC := aM' hC
 have c0 : w1.cell? ⟨w.heap.size, 0, none⟩ = some (.int .i64 wd) := blk_cell hw0 0
 have cr0 : w1.cell? ⟨w.heap.size + 1 + 1, 0, none⟩ = some (.string ⟨#[]⟩) := blk_cell hw2 0
 have cr1 : w1.cell? ⟨w.heap.size + 1 + 1, 1, none⟩ = some (.int .u64 0) := blk_cell hw2 1
 have cr2 : w1.cell? ⟨w.heap.size + 1 + 1, 2, none⟩ = some (.int .u64 0) := blk_cell hw2 2
 have fr : ∀ i, w1.frozen? ⟨w.heap.size + 1 + 1, i, none⟩ = false := fun i => blk_frozen hw2 i
 have ce : w1.cell? ⟨w.heap.size + 1 + 1 + 1, 0, none⟩ = some (.int .i64 0) := blk_cell hw3 0
 have fe : ∀ i, w1.frozen? ⟨w.heap.size + 1 + 1 + 1, i, none⟩ = false := fun i => blk_frozen hw3 i
 clear hb hB0 hw0 hw1 hw2 hw3 hC
 cases hof : nodeOf wd n with
 | false =>
  have HI := aM' (show climbI wd n p l = (⟨#[]⟩, 0, 0, 70) by unfold climbI; rw [if_neg (by rw [hof]; simp)])
  gi_wp2_with (refine ⟨trivial, ?_⟩)
  rw [HI.out]
  exact climb_ret (HC.out.put ⟨⟨#[]⟩, ⟨0, 0⟩⟩ 70) rfl rfl ⟨rfl, (HC.out.put ⟨⟨#[]⟩, ⟨0, 0⟩⟩ 70).hB⟩
 | true =>
  gi_wp2_with fail
  refine ⟨trivial, ?_⟩
  refine (callsIn_wide.2 (all.calls wd A c l _ (Kd.C_below HR.out HC.out.hB))).mono ?_
  rintro e w2 ⟨rfl, hb⟩
  have h1 : (decide (1 ≤ wd) && (decide (wd ≤ 32) && l.all (nodeOf wd))) = l.all (nodeOf wd) := by
   obtain ⟨h1, h2, _⟩ := nodeOf_w hof
   simp [h1, h2]
  rw [h1]
  have hC2 := HC.out.below hb
  clear HC c0 cr0 cr1 cr2 fr ce fe h1 hb
  have HC := aM' hC2
  have cr0 : w2.cell? ⟨w.heap.size + 1 + 1, 0, none⟩ = some (.string ⟨#[]⟩) := blk_cell hC2.h2 0
  have cr1 : w2.cell? ⟨w.heap.size + 1 + 1, 1, none⟩ = some (.int .u64 0) := blk_cell hC2.h2 1
  have cr2 : w2.cell? ⟨w.heap.size + 1 + 1, 2, none⟩ = some (.int .u64 0) := blk_cell hC2.h2 2
  have fr : ∀ i, w2.frozen? ⟨w.heap.size + 1 + 1, i, none⟩ = false := fun i => blk_frozen hC2.h2 i
  have ce : w2.cell? ⟨w.heap.size + 1 + 1 + 1, 0, none⟩ = some (.int .i64 0) := blk_cell hC2.h3 0
  have fe : ∀ i, w2.frozen? ⟨w.heap.size + 1 + 1 + 1, i, none⟩ = false := fun i => blk_frozen hC2.h3 i
  clear hC2
  cases hal : l.all (nodeOf wd) with
  | false =>
   have HI := aM' (show climbI wd n p l = (⟨#[]⟩, 0, 0, 70) by unfold climbI; rw [if_neg (by rw [hal]; simp)])
   gi_wp2_with (refine ⟨trivial, ?_⟩)
   rw [HI.out]
   exact climb_ret (HC.out.put ⟨⟨#[]⟩, ⟨0, 0⟩⟩ 70) rfl rfl ⟨rfl, (HC.out.put ⟨⟨#[]⟩, ⟨0, 0⟩⟩ 70).hB⟩
  | true =>
   by_cases h63 : 63 < l.length
   ·
    have b1 : decide (63 < (l.length : Int)) = true := decide_eq_true (by omega)
    have HI := aM' (show climbI wd n p l = (⟨#[]⟩, 0, 0, 2) by unfold climbI; rw [if_pos ⟨hof, hal⟩, if_pos h63])
    gi_wp2_with (refine ⟨trivial, ?_⟩)
    rw [HI.out]
    exact climb_ret (HC.out.put ⟨⟨#[]⟩, ⟨0, 0⟩⟩ 2) rfl rfl ⟨rfl, (HC.out.put ⟨⟨#[]⟩, ⟨0, 0⟩⟩ 2).hB⟩
   ·
    have b1 : decide (63 < (l.length : Int)) = false := decide_eq_false (by omega)
    have HI := aM' (show climbI wd n p l = climbL wd n (turnsTo p l l.length) by unfold climbI; rw [if_pos ⟨hof, hal⟩, if_neg h63])
    gi_wp2_with fail
    refine ⟨trivial, ?_⟩
    refine (callsIn_wide.2 (turns.calls p A l.length c w2)).mono ?_
    rintro e w3 ⟨rfl, hw3⟩
    clear cr0 cr1 cr2 fr ce fe b1
    have hP : w3.heap[w2.heap.size]? = some (.cells #[.int .u64 p] 22 (0, 0)) := by rw [hw3]; exact blk_alloc (blk_new w2 _) _
    have hS : w3.heap[w2.heap.size + 1]? = some (.cells #[.slice A l.length c] 35 (0, 0)) := by
     rw [hw3]
     have := blk_new (w2.alloc (.cells #[.int .u64 p] 22)) (.cells #[.slice A l.length c] 35)
     rwa [World.size_alloc] at this
    have hC3 : Clim w wd n ⟨⟨#[]⟩, ⟨0, 0⟩⟩ 0 w3 := by rw [hw3]; exact HC.out.below (below_alloc (below_alloc (Below.refl _ _) _) _)
    have hz3 : w3.heap.size = w2.heap.size + 2 := by rw [hw3]; simp
    have hlt2 := HC.out.lt
    have HP := aM' hP
    have HS := aM' hS
    have HC3 := aM' hC3
    have HZ := aM' hz3
    have HL := aM' hlt2
    have HH := aM' h63
    clear hw3 hP hS hC3 hz3 hlt2 HC h63
    have HLT : ∀ k, climbS w2 A l k → k < w3.heap.size := by
     rintro k (rfl | rfl | ⟨h0, a, rfl, rfl⟩)
     ·
      rw [HZ.out]; omega
     ·
      rw [HZ.out]; omega
     ·
      exact lL' (nodes_block HR.out h0) HC3.out.hB.size
    have HFAR : ∀ k, climbS w2 A l k → k ≠ w.heap.size + 1 := by
     rintro k (rfl | rfl | ⟨h0, a, rfl, rfl⟩)
     ·
      have := HL.out; omega
     ·
      have := HL.out; omega
     ·
      have := nodes_block HR.out h0; omega
    have HLT := aM' HLT
    have HFAR := aM' HFAR
    gi_wp2_with fail
    refine wpIn_rangeFunc_ownH (α := OkX) (n := 3) rfl (by omega) (gf := 69) (lb := #[.pointer (some ⟨w2.heap.size + 1, 0, none⟩), .pointer (some ⟨w2.heap.size, 0, none⟩)]) rfl trivial (enters_of Tryz.func69 (by kernel_rfl) rfl) (encs := fun x => turnV x.1) (Kp := KeepS (climbS w2 A l))
     (S := fun xs => xs.map Subtype.val = turnsTo p l l.length) (Sp := fun pre => ∃ k, k ≤ l.length ∧ pre.map Subtype.val = turnsTo p l k) (N := l.length) (w0 := w3) ?hseq (fun h k => KeepS.trans h k) ?hKb (Below.refl _ _) (fun _ => rfl)
     (fun pre W => ∃ st, upTo wd n (pre.map Subtype.val) = some st ∧ OkU st.f1 ∧ Clim w wd st ⟨⟨#[]⟩, ⟨0, 0⟩⟩ 0 W ∧ w3.heap.size ≤ W.heap.size)
     (fun c pre W => c = .ret ∧ ∃ pre0 x st st', pre.map Subtype.val = pre0 ++ [x] ∧ upTo wd n pre0 = some st ∧ (stepI wd st x).2.2.2 ≠ 0 ∧ Clim w wd st' ⟨⟨#[]⟩, ⟨0, 0⟩⟩ (stepI wd st x).2.2.2 W)
     ?hI ?hIx ⟨n, rfl, UN.out, HC3.out, Nat.le_refl _⟩
     (fun x a' W => ∃ bx, w3.heap.size ≤ bx ∧ W.heap[bx]? = some (.cells (nodeA x.1.1) 67 (0, 0)) ∧ a' = ({ tmps := #[.int .i64 wd, nodeV n, .int .u64 p, .slice A l.length c, .pointer (some ⟨w.heap.size, 0, none⟩), .pointer (some ⟨w.heap.size + 1, 0, none⟩), undef, undef, .pointer (some ⟨w.heap.size + 1 + 1, 0, none⟩), .pointer (some ⟨w.heap.size + 1 + 1 + 1, 0, none⟩), .pointer (some ⟨bx, 0, none⟩), .bool x.1.2, undef, undef, undef, undef, .bool false, .int .i64 wd, .agg #[.string n.f0, .int .u64 n.f1.f0, .int .u64 n.f1.f1], .bool true, .bool false, .bool false, .int .i64 wd, .slice A l.length c, .bool true, .bool false, .bool false, undef, .bool false, .slice A l.length c, .int .i64 (l.length : Int), .bool false, undef, .int .u64 p, .slice A l.length c, .func (.func 69) #[] #[.pointer (some ⟨w2.heap.size + 1, 0, none⟩), .pointer (some ⟨w2.heap.size, 0, none⟩)], nodeV x.1.1, .bool x.1.2, undef, undef, undef, undef, undef, undef, undef, undef, undef, undef, undef, undef, undef, undef, undef, undef, undef, undef], defers := [] } : Act)) ?hAx ?assign ?body ?done ?stop
    case hKb =>
     intro W l2 o o' hl2 ho hc hw k hk
     have := HLT.out k hk
     exact World.putObj_heap_other (by omega)
    case hI =>
     rintro s X Y row ⟨st, h1, h2, h3, h4⟩ hg hr
     exact ⟨st, h1, h2, h3.own hg (by rw [HZ.out]; have := HL.out; omega) (fun r e => (hr r e).1), Nat.le_trans h4 hg.size⟩
    case hIx =>
     rintro c2 s X Y row ⟨rfl, pre0, x, st, st', h1, h2, h3, h4⟩ hg hr
     exact ⟨rfl, pre0, x, st, st', h1, h2, h3, h4.own hg (by rw [HZ.out]; have := HL.out; omega) (fun r e => (hr r e).1)⟩
    case hAx =>
     rintro x a' s X Y row ⟨bx, h1, h2, h3⟩ hg hr
     refine ⟨bx, h1, (hg.block bx (blk_lt h2) (fun e => ?_)).trans h2, h3⟩
     obtain ⟨-, o, ho, hc⟩ := hr bx e.symm
     rw [h2] at ho; cases ho; cases hc
    case hseq =>
     intro l2 J Jx W hW hJ hJx hY h0
     refine (turns1_in Fence.wide 2 trivial rfl (by omega) l2 (w2.heap.size + 1) w2.heap.size W.heap.size p hp A c l (by have := HH.out; omega) (climbS w2 A l) (.inl rfl) (.inr (.inl rfl)) (fun h0 a ha => .inr (.inr ⟨h0, a, ha, rfl⟩)) (fun x => OkU x.f1) UL.out
      (fun pre W => ∃ pre' : List OkX, pre'.map Subtype.val = pre ∧ J pre' W) (fun pre W => ∃ pre' : List OkX, pre'.map Subtype.val = pre ∧ Jx pre' W)
      (fun s X Y row ⟨pre', e, h⟩ hg hr => ⟨pre', e, hJ _ _ _ row h hg hr⟩) ?_ W (blk_below HS.out hW) (blk_below HP.out hW) (Kd.C_below HR.out (HC3.out.hB.trans (hW.mono HC3.out.hB.size))) (fun k hk => lL' (HLT.out k hk) hW.size) ⟨[], rfl, h0⟩).mono ?_
     ·
      rintro pre x W1 hok ⟨pre', rfl, hj⟩ hlen
      obtain ⟨fn, tmps, asg, bd, hy, hR⟩ := hY pre' ⟨x, hok⟩ W1 hj (by simpa using hlen)
      refine ⟨fn, tmps, asg, bd, hy, hR.mono ?_⟩
      rintro e W2 (⟨rfl, h1, h2⟩ | ⟨rfl, h1⟩)
      ·
       exact .inl ⟨rfl, ⟨_, by simp, h1⟩, h2⟩
      ·
       exact .inr ⟨rfl, ⟨_, by simp, h1⟩⟩
     ·
      rintro e W2 ⟨hv, ⟨ys, rfl, ys', e1, h1⟩ | ⟨pre, ⟨k, hk, rfl⟩, pre', e1, h1⟩⟩
      ·
       exact ⟨hv, .inl ⟨ys', e1, h1⟩⟩
      ·
       exact ⟨hv, .inr ⟨pre', ⟨k, hk, e1⟩, h1⟩⟩
    case assign =>
     rintro l2 pre x W K ⟨st, hu, hok, hC, hz⟩ hK
     gi_wp2
     have hg := World.grownBy_alloc W (.cells (nodeA x.1.1) 67) none
     refine hK _ _ (KeepsFrom.of_grownBy hg (fun j e => by cases e)) (fun k hk => hg.block k (lL' (HLT.out k hk) hz) (by simp)) ⟨st, hu, hok, hC.below (below_alloc (Below.refl _ _) _), by simp; omega⟩ ⟨W.heap.size, hz, blk_new W _, rfl⟩
    case body =>
     rintro l2 pre x a' W hl2 - ⟨st, hu, hok, hC, hz⟩ ⟨bx, hbx, hb, rfl⟩ hlen
     obtain ⟨B1, hB1⟩ : ∃ B1, w.heap.size + 1 = B1 := ⟨_, rfl⟩
     have cn0 : W.cell? ⟨B1, 0, none⟩ = some (.string st.f0) := by rw [← hB1]; exact blk_cell hC.h1 0
     have cn1 : W.cell? ⟨B1, 1, none⟩ = some (.int .u64 st.f1.f0) := by rw [← hB1]; exact blk_cell hC.h1 1
     have cn2 : W.cell? ⟨B1, 2, none⟩ = some (.int .u64 st.f1.f1) := by rw [← hB1]; exact blk_cell hC.h1 2
     have cs0 : W.cell? ⟨bx, 0, none⟩ = some (.string x.1.1.f0) := blk_cell hb 0
     have cs1 : W.cell? ⟨bx, 1, none⟩ = some (.int .u64 x.1.1.f1.f0) := blk_cell hb 1
     have cs2 : W.cell? ⟨bx, 2, none⟩ = some (.int .u64 x.1.1.f1.f1) := blk_cell hb 2
     have hlb : bx < W.heap.size := blk_lt hb
     have hlw : B1 < W.heap.size := by rw [← hB1]; exact blk_lt hC.h1
     have q1 : bx ≠ W.heap.size := by omega
     have q2 : bx ≠ W.heap.size + 1 := by omega
     have q3 : B1 ≠ W.heap.size := by omega
     have q4 : B1 ≠ W.heap.size + 1 := by omega
     have HU := aM' hu
     have HOK := aM' hok
     have HC := aM' hC
     have HZZ := aM' hz
     have HBX := aM' hbx
     have HBC := aM' hb
     have HB1 := aM' hB1
     clear hu hok hC hz hbx hb hlen
     rw [hB1]
     clear hB1
     gi_upto_region 8 with (fail)
     refine wpIn_mono (Q := fun e a' W' => e = .normal ∧ ∃ b12 b13, a' = ({ tmps := #[.int .i64 wd, nodeV n, .int .u64 p, .slice A l.length c, .pointer (some ⟨w.heap.size, 0, none⟩), .pointer (some ⟨B1, 0, none⟩), undef, undef, .pointer (some ⟨B1 + 1, 0, none⟩), .pointer (some ⟨B1 + 1 + 1, 0, none⟩), .pointer (some ⟨bx, 0, none⟩), .bool x.1.2, .pointer (some ⟨b12, 0, none⟩), .pointer (some ⟨b13, 0, none⟩), undef, undef, .bool false, .int .i64 wd, .agg #[.string n.f0, .int .u64 n.f1.f0, .int .u64 n.f1.f1], .bool true, .bool false, .bool false, .int .i64 wd, .slice A l.length c, .bool true, .bool false, .bool false, undef, .bool false, .slice A l.length c, .int .i64 (l.length : Int), .bool false, undef, .int .u64 p, .slice A l.length c, .func (.func 69) #[] #[.pointer (some ⟨w2.heap.size + 1, 0, none⟩), .pointer (some ⟨w2.heap.size, 0, none⟩)], nodeV x.1.1, .bool x.1.2, .agg #[.string x.1.1.f0, .int .u64 x.1.1.f1.f0, .int .u64 x.1.1.f1.f1], .agg #[.string st.f0, .int .u64 st.f1.f0, .int .u64 st.f1.f1], undef, undef, undef, undef, undef, undef, undef, undef, undef, undef, undef, undef, undef, undef, undef, undef], defers := [] } : Act) ∧ Two W b12 b13 x.1.1 st W') ?r8 ?k8
     case r8 =>
      clear HU HOK HC HZZ HBX HBC HI HR HK UN UL HP HS HC3 HZ HL HH HLT HFAR
      gi_region_with (fail)
      all_goals
       refine ⟨rfl, _, _, rfl, ?_⟩
       with_reducible first | exact climb_twoA W x.1.1 st | exact climb_twoB W x.1.1 st
     case k8 =>
      clear cn0 cn1 cn2 cs0 cs1 cs2 hlb hlw q1 q2 q3 q4
      rintro e a' W' ⟨rfl, b12, b13, rfl, hT⟩
      obtain ⟨⟨sd, right⟩, hx⟩ := x
      have HT := aM' hT
      have HX := aM' hx
      clear hT
      dsimp only
      cases right with
      | false =>
       have hC5 := HC.out.below HT.out.hB
       have HC5 := aM' hC5
       have g0 : W'.cell? ⟨w.heap.size, 0, none⟩ = some (.int .i64 wd) := blk_cell hC5.h0 0
       have g1 : W'.cell? ⟨b12, 0, none⟩ = some (.string sd.f0) := blk_cell HT.out.h12 0
       have g2 : W'.cell? ⟨b12, 1, none⟩ = some (.int .u64 sd.f1.f0) := blk_cell HT.out.h12 1
       have g3 : W'.cell? ⟨b12, 2, none⟩ = some (.int .u64 sd.f1.f1) := blk_cell HT.out.h12 2
       have g4 : W'.cell? ⟨b13, 0, none⟩ = some (.string st.f0) := blk_cell HT.out.h13 0
       have g5 : W'.cell? ⟨b13, 1, none⟩ = some (.int .u64 st.f1.f0) := blk_cell HT.out.h13 1
       have g6 : W'.cell? ⟨b13, 2, none⟩ = some (.int .u64 st.f1.f1) := blk_cell HT.out.h13 2
       clear hC5
       rcases hj : joinI wd sd st with ⟨r1, r2, r3, r4⟩
       have hs : stepI wd st (sd, false) = (r1, r2, r3, r4) := hj
       have hok2 := joinI_ok wd sd st hx HOK.out
       obtain ⟨kk, hkk⟩ := (join_ev wd sd st hx HOK.out)
       have HJ := aM' (hkk kk (Nat.le_refl _))
       have HS2 := aM' hs
       rw [hj] at HJ hok2
       have HOK2 := aM' hok2
       clear hkk hj hs hok2
       gi_wp2_with fail
       refine ⟨trivial, ?_⟩
       refine (CallsIn.inRound l2 (callsIn_wide.2 (node_Join.calls kk wd sd.f0 sd.f1.f0 sd.f1.f1 st.f0 st.f1.f0 st.f1.f1 r1 r2 r3 r4 _ (HK.out.below HC5.out.hB) HJ.out))).mono ?_
       rintro e w5 ⟨rfl, hb5⟩
       clear g0 g1 g2 g3 g4 g5 g6
       have HB5 := aM' hb5
       have hC6 := HC5.out.below hb5
       have HC6 := aM' hC6
       have hlz := hC6.lt
       have q3 : B1 ≠ w5.heap.size := by have := HB1.out; omega
       have q4 : B1 + 1 ≠ w5.heap.size := by have := HB1.out; omega
       have q5 : B1 + 1 + 1 ≠ w5.heap.size := by have := HB1.out; omega
       have z3 : B1 < w5.heap.size := by have := HB1.out; omega
       have z4 : B1 + 1 < w5.heap.size := by have := HB1.out; omega
       have z5 : B1 + 1 + 1 < w5.heap.size := by have := HB1.out; omega
       have hw3 : B1 + 1 + 1 < w3.heap.size := by have := HB1.out; have := HC3.out.lt; omega
       have HW3 := aM' hw3
       clear hb5 hlz hw3
       by_cases h0 : r4 = 0
       ·
        subst h0
        have cn0 : w5.cell? ⟨B1, 0, none⟩ = some (.string st.f0) := by rw [← HB1.out]; exact blk_cell hC6.h1 0
        have cn1 : w5.cell? ⟨B1, 1, none⟩ = some (.int .u64 st.f1.f0) := by rw [← HB1.out]; exact blk_cell hC6.h1 1
        have cn2 : w5.cell? ⟨B1, 2, none⟩ = some (.int .u64 st.f1.f1) := by rw [← HB1.out]; exact blk_cell hC6.h1 2
        have fn : ∀ i, w5.frozen? ⟨B1, i, none⟩ = false := fun i => by rw [← HB1.out]; exact blk_frozen hC6.h1 i
        clear hC6
        gi_wp2
        have hend := bar_alloc (bar_set (bar_set (bar_set (bar_step (bar_below HT.out.hB B1) HB5.out) (a := ⟨B1, 0, none⟩) (v := .string r1) (.inl rfl)) (a := ⟨B1, 1, none⟩) (v := .int .u64 r2) (.inl rfl)) (a := ⟨B1, 2, none⟩) (v := .int .u64 r3) (.inl rfl)) (.cells #[.string r1, .int .u64 r2, .int .u64 r3] 67)
        change KeepsFrom _ W _ ∧ _ ∧ _
        refine ⟨KeepsFrom.of_grownBy hend (fun j e => by have := Option.some.inj e; have := HW3.out; omega), fun k hk => hend.block k (lL' (HLT.out k hk) HZZ.out) (fun e => HFAR.out k hk (by have := Option.some.inj e; have := HB1.out; omega)), nodeJ (r1, r2, r3, 0), ?_, HOK2.out, ?_, Nat.le_trans HZZ.out hend.size⟩
        ·
         have := upTo_snoc wd (sd, false) _ _ _ HU.out (by rw [HS2.out])
         rw [HS2.out] at this
         rw [List.map_append]
         exact this
        ·
         have := (HC6.out.step (nodeJ (r1, r2, r3, 0))).below (below_alloc (Below.refl _ _) (.cells #[.string r1, .int .u64 r2, .int .u64 r3] 67))
         rw [HB1.out] at this
         exact this
       ·
        have b1 : (r4 != 0) = true := by simp [h0]
        have cr0 : w5.cell? ⟨B1 + 1, 0, none⟩ = some (.string ⟨#[]⟩) := by rw [← HB1.out]; exact blk_cell hC6.h2 0
        have cr1 : w5.cell? ⟨B1 + 1, 1, none⟩ = some (.int .u64 0) := by rw [← HB1.out]; exact blk_cell hC6.h2 1
        have cr2 : w5.cell? ⟨B1 + 1, 2, none⟩ = some (.int .u64 0) := by rw [← HB1.out]; exact blk_cell hC6.h2 2
        have fr : ∀ i, w5.frozen? ⟨B1 + 1, i, none⟩ = false := fun i => by rw [← HB1.out]; exact blk_frozen hC6.h2 i
        have ce : w5.cell? ⟨B1 + 1 + 1, 0, none⟩ = some (.int .i64 0) := by rw [← HB1.out]; exact blk_cell hC6.h3 0
        have fe : ∀ i, w5.frozen? ⟨B1 + 1 + 1, i, none⟩ = false := fun i => by rw [← HB1.out]; exact blk_frozen hC6.h3 i
        clear hC6
        gi_wp2
        have hend := bar_set (bar_set (bar_set (bar_step (bar_below HT.out.hB (B1 + 1)) HB5.out) (a := ⟨B1 + 1, 0, none⟩) (v := .string ⟨#[]⟩) (.inl rfl)) (a := ⟨B1 + 1, 1, none⟩) (v := .int .u64 0) (.inl rfl)) (a := ⟨B1 + 1, 2, none⟩) (v := .int .u64 0) (.inl rfl)
        change KeepsFrom _ W _ ∧ _
        refine ⟨(KeepsFrom.of_grownBy hend (fun j e => by have := Option.some.inj e; have := HW3.out; omega)).trans ((KeepsFrom.of_grownBy (grownBy_setCell' _ (B1 + 1 + 1) (.int .i64 r4)) (fun j e => by have := Option.some.inj e; have := HW3.out; omega)).trans (KeepsFrom.of_grownBy (World.grownBy_alloc _ (.cells #[.string r1, .int .u64 r2, .int .u64 r3] 67) none) (fun j e => by cases e))), rfl, pre.map Subtype.val, (sd, false), st, st, by simp, HU.out, by rw [HS2.out]; exact h0, ?_⟩
        rw [HS2.out]
        have := (HC6.out.put ⟨⟨#[]⟩, ⟨0, 0⟩⟩ r4).below (below_alloc (Below.refl _ _) (.cells #[.string r1, .int .u64 r2, .int .u64 r3] 67))
        rw [HB1.out] at this
        exact this
      | true =>
       have hC5 := HC.out.below HT.out.hB
       have hbx2 : W'.heap[bx]? = some (.cells (nodeA sd) 67 (0, 0)) := blk_below HBC.out HT.out.hB
       have g1 : W'.cell? ⟨b12, 0, none⟩ = some (.string sd.f0) := blk_cell HT.out.h12 0
       have g2 : W'.cell? ⟨b12, 1, none⟩ = some (.int .u64 sd.f1.f0) := blk_cell HT.out.h12 1
       have g3 : W'.cell? ⟨b12, 2, none⟩ = some (.int .u64 sd.f1.f1) := blk_cell HT.out.h12 2
       have g4 : W'.cell? ⟨b13, 0, none⟩ = some (.string st.f0) := blk_cell HT.out.h13 0
       have g5 : W'.cell? ⟨b13, 1, none⟩ = some (.int .u64 st.f1.f0) := blk_cell HT.out.h13 1
       have g6 : W'.cell? ⟨b13, 2, none⟩ = some (.int .u64 st.f1.f1) := blk_cell HT.out.h13 2
       have f12 : ∀ i, W'.frozen? ⟨b12, i, none⟩ = false := fun i => blk_frozen HT.out.h12 i
       have f13 : ∀ i, W'.frozen? ⟨b13, i, none⟩ = false := fun i => blk_frozen HT.out.h13 i
       have n0 : W'.cell? ⟨B1, 0, none⟩ = some (.string st.f0) := by rw [← HB1.out]; exact blk_cell hC5.h1 0
       have n1 : W'.cell? ⟨B1, 1, none⟩ = some (.int .u64 st.f1.f0) := by rw [← HB1.out]; exact blk_cell hC5.h1 1
       have n2 : W'.cell? ⟨B1, 2, none⟩ = some (.int .u64 st.f1.f1) := by rw [← HB1.out]; exact blk_cell hC5.h1 2
       have s0 : W'.cell? ⟨bx, 0, none⟩ = some (.string sd.f0) := blk_cell hbx2 0
       have s1 : W'.cell? ⟨bx, 1, none⟩ = some (.int .u64 sd.f1.f0) := blk_cell hbx2 1
       have s2 : W'.cell? ⟨bx, 2, none⟩ = some (.int .u64 sd.f1.f1) := blk_cell hbx2 2
       have hlb : bx < W.heap.size := blk_lt HBC.out
       have hlw : B1 < W.heap.size := by rw [← HB1.out]; exact blk_lt HC.out.h1
       have u1 : bx ≠ b12 := by have := HT.out.l12; omega
       have u2 : bx ≠ b13 := by have := HT.out.l13; omega
       have u3 : B1 ≠ b12 := by have := HT.out.l12; omega
       have u4 : B1 ≠ b13 := by have := HT.out.l13; omega
       have u5 : b12 ≠ b13 := HT.out.ne
       have u6 : b13 ≠ b12 := Ne.symm HT.out.ne
       clear hC5 hbx2 hlb hlw
       gi_upto_region 10 with (fail)
       refine wpIn_mono (Q := fun e a' V => e = .normal ∧ a' = ({ tmps := #[.int .i64 wd, nodeV n, .int .u64 p, .slice A l.length c, .pointer (some ⟨w.heap.size, 0, none⟩), .pointer (some ⟨B1, 0, none⟩), undef, undef, .pointer (some ⟨B1 + 1, 0, none⟩), .pointer (some ⟨B1 + 1 + 1, 0, none⟩), .pointer (some ⟨bx, 0, none⟩), .bool true, .pointer (some ⟨b12, 0, none⟩), .pointer (some ⟨b13, 0, none⟩), undef, undef, .bool false, .int .i64 wd, .agg #[.string n.f0, .int .u64 n.f1.f0, .int .u64 n.f1.f1], .bool true, .bool false, .bool false, .int .i64 wd, .slice A l.length c, .bool true, .bool false, .bool false, undef, .bool false, .slice A l.length c, .int .i64 (l.length : Int), .bool false, undef, .int .u64 p, .slice A l.length c, .func (.func 69) #[] #[.pointer (some ⟨w2.heap.size + 1, 0, none⟩), .pointer (some ⟨w2.heap.size, 0, none⟩)], nodeV sd, .bool true, .agg #[.string sd.f0, .int .u64 sd.f1.f0, .int .u64 sd.f1.f1], .agg #[.string st.f0, .int .u64 st.f1.f0, .int .u64 st.f1.f1], .bool true, .agg #[.string st.f0, .int .u64 st.f1.f0, .int .u64 st.f1.f1], .agg #[.string sd.f0, .int .u64 sd.f1.f0, .int .u64 sd.f1.f1], undef, undef, undef, undef, undef, undef, undef, undef, undef, undef, undef, undef, undef], defers := [] } : Act) ∧ Two W b12 b13 st sd V) ?r10 ?k10
       case r10 =>
        clear HU HOK HC HZZ HBX HBC HI HR HK UN UL HP HS HC3 HZ HL HH HLT HFAR HB1
        gi_region_with (fail)
        all_goals
         refine ⟨rfl, rfl, ?_⟩
         have h2 := HT.out.put st sd
         with_reducible exact ⟨h2.ne, h2.l12, h2.l13, below_drew h2.hB, blk_drew h2.h12, blk_drew h2.h13⟩
       case k10 =>
       clear g1 g2 g3 g4 g5 g6 f12 f13 n0 n1 n2 s0 s1 s2 u1 u2 u3 u4 u5 u6 HT
       clear W'
       rintro e a' W' ⟨rfl, rfl, hT⟩
       have HT := aM' hT
       clear hT
       dsimp only
       have hC5 := HC.out.below HT.out.hB
       have HC5 := aM' hC5
       have g0 : W'.cell? ⟨w.heap.size, 0, none⟩ = some (.int .i64 wd) := blk_cell hC5.h0 0
       have g1 : W'.cell? ⟨b12, 0, none⟩ = some (.string st.f0) := blk_cell HT.out.h12 0
       have g2 : W'.cell? ⟨b12, 1, none⟩ = some (.int .u64 st.f1.f0) := blk_cell HT.out.h12 1
       have g3 : W'.cell? ⟨b12, 2, none⟩ = some (.int .u64 st.f1.f1) := blk_cell HT.out.h12 2
       have g4 : W'.cell? ⟨b13, 0, none⟩ = some (.string sd.f0) := blk_cell HT.out.h13 0
       have g5 : W'.cell? ⟨b13, 1, none⟩ = some (.int .u64 sd.f1.f0) := blk_cell HT.out.h13 1
       have g6 : W'.cell? ⟨b13, 2, none⟩ = some (.int .u64 sd.f1.f1) := blk_cell HT.out.h13 2
       clear hC5
       rcases hj : joinI wd st sd with ⟨r1, r2, r3, r4⟩
       have hs : stepI wd st (sd, true) = (r1, r2, r3, r4) := hj
       have hok2 := joinI_ok wd st sd HOK.out hx
       obtain ⟨kk, hkk⟩ := (join_ev wd st sd HOK.out hx)
       have HJ := aM' (hkk kk (Nat.le_refl _))
       have HS2 := aM' hs
       rw [hj] at HJ hok2
       have HOK2 := aM' hok2
       clear hkk hj hs hok2
       gi_wp2_with fail
       refine ⟨trivial, ?_⟩
       refine (CallsIn.inRound l2 (callsIn_wide.2 (node_Join.calls kk wd st.f0 st.f1.f0 st.f1.f1 sd.f0 sd.f1.f0 sd.f1.f1 r1 r2 r3 r4 _ (HK.out.below HC5.out.hB) HJ.out))).mono ?_
       rintro e w5 ⟨rfl, hb5⟩
       clear g0 g1 g2 g3 g4 g5 g6
       have HB5 := aM' hb5
       have hC6 := HC5.out.below hb5
       have HC6 := aM' hC6
       have hlz := hC6.lt
       have q3 : B1 ≠ w5.heap.size := by have := HB1.out; omega
       have q4 : B1 + 1 ≠ w5.heap.size := by have := HB1.out; omega
       have q5 : B1 + 1 + 1 ≠ w5.heap.size := by have := HB1.out; omega
       have z3 : B1 < w5.heap.size := by have := HB1.out; omega
       have z4 : B1 + 1 < w5.heap.size := by have := HB1.out; omega
       have z5 : B1 + 1 + 1 < w5.heap.size := by have := HB1.out; omega
       have hw3 : B1 + 1 + 1 < w3.heap.size := by have := HB1.out; have := HC3.out.lt; omega
       have HW3 := aM' hw3
       clear hb5 hlz hw3
       by_cases h0 : r4 = 0
       ·
        subst h0
        have cn0 : w5.cell? ⟨B1, 0, none⟩ = some (.string st.f0) := by rw [← HB1.out]; exact blk_cell hC6.h1 0
        have cn1 : w5.cell? ⟨B1, 1, none⟩ = some (.int .u64 st.f1.f0) := by rw [← HB1.out]; exact blk_cell hC6.h1 1
        have cn2 : w5.cell? ⟨B1, 2, none⟩ = some (.int .u64 st.f1.f1) := by rw [← HB1.out]; exact blk_cell hC6.h1 2
        have fn : ∀ i, w5.frozen? ⟨B1, i, none⟩ = false := fun i => by rw [← HB1.out]; exact blk_frozen hC6.h1 i
        clear hC6
        gi_wp2
        have hend := bar_alloc (bar_set (bar_set (bar_set (bar_step (bar_below HT.out.hB B1) HB5.out) (a := ⟨B1, 0, none⟩) (v := .string r1) (.inl rfl)) (a := ⟨B1, 1, none⟩) (v := .int .u64 r2) (.inl rfl)) (a := ⟨B1, 2, none⟩) (v := .int .u64 r3) (.inl rfl)) (.cells #[.string r1, .int .u64 r2, .int .u64 r3] 67)
        change KeepsFrom _ W _ ∧ _ ∧ _
        refine ⟨KeepsFrom.of_grownBy hend (fun j e => by have := Option.some.inj e; have := HW3.out; omega), fun k hk => hend.block k (lL' (HLT.out k hk) HZZ.out) (fun e => HFAR.out k hk (by have := Option.some.inj e; have := HB1.out; omega)), nodeJ (r1, r2, r3, 0), ?_, HOK2.out, ?_, Nat.le_trans HZZ.out hend.size⟩
        ·
         have := upTo_snoc wd (sd, true) _ _ _ HU.out (by rw [HS2.out])
         rw [HS2.out] at this
         rw [List.map_append]
         exact this
        ·
         have := (HC6.out.step (nodeJ (r1, r2, r3, 0))).below (below_alloc (Below.refl _ _) (.cells #[.string r1, .int .u64 r2, .int .u64 r3] 67))
         rw [HB1.out] at this
         exact this
       ·
        have b1 : (r4 != 0) = true := by simp [h0]
        have cr0 : w5.cell? ⟨B1 + 1, 0, none⟩ = some (.string ⟨#[]⟩) := by rw [← HB1.out]; exact blk_cell hC6.h2 0
        have cr1 : w5.cell? ⟨B1 + 1, 1, none⟩ = some (.int .u64 0) := by rw [← HB1.out]; exact blk_cell hC6.h2 1
        have cr2 : w5.cell? ⟨B1 + 1, 2, none⟩ = some (.int .u64 0) := by rw [← HB1.out]; exact blk_cell hC6.h2 2
        have fr : ∀ i, w5.frozen? ⟨B1 + 1, i, none⟩ = false := fun i => by rw [← HB1.out]; exact blk_frozen hC6.h2 i
        have ce : w5.cell? ⟨B1 + 1 + 1, 0, none⟩ = some (.int .i64 0) := by rw [← HB1.out]; exact blk_cell hC6.h3 0
        have fe : ∀ i, w5.frozen? ⟨B1 + 1 + 1, i, none⟩ = false := fun i => by rw [← HB1.out]; exact blk_frozen hC6.h3 i
        clear hC6
        gi_wp2
        have hend := bar_set (bar_set (bar_set (bar_step (bar_below HT.out.hB (B1 + 1)) HB5.out) (a := ⟨B1 + 1, 0, none⟩) (v := .string ⟨#[]⟩) (.inl rfl)) (a := ⟨B1 + 1, 1, none⟩) (v := .int .u64 0) (.inl rfl)) (a := ⟨B1 + 1, 2, none⟩) (v := .int .u64 0) (.inl rfl)
        change KeepsFrom _ W _ ∧ _
        refine ⟨(KeepsFrom.of_grownBy hend (fun j e => by have := Option.some.inj e; have := HW3.out; omega)).trans ((KeepsFrom.of_grownBy (grownBy_setCell' _ (B1 + 1 + 1) (.int .i64 r4)) (fun j e => by have := Option.some.inj e; have := HW3.out; omega)).trans (KeepsFrom.of_grownBy (World.grownBy_alloc _ (.cells #[.string r1, .int .u64 r2, .int .u64 r3] 67) none) (fun j e => by cases e))), rfl, pre.map Subtype.val, (sd, true), st, st, by simp, HU.out, by rw [HS2.out]; exact h0, ?_⟩
        rw [HS2.out]
        have := (HC6.out.put ⟨⟨#[]⟩, ⟨0, 0⟩⟩ r4).below (below_alloc (Below.refl _ _) (.cells #[.string r1, .int .u64 r2, .int .u64 r3] 67))
        rw [HB1.out] at this
        exact this
    case done =>
     rintro D xs W hD hxs ⟨st, hu, hok, hC, hz⟩ hdf
     have HU := aM' (show climbI wd n p l = (st.f0, st.f1.f0, st.f1.f1, 0) by
      rw [HI.out, ← hxs, show xs.map Subtype.val = xs.map Subtype.val ++ [] by simp, climbL_up wd [] _ _ _ hu]; rfl)
     have cn0 : W.cell? ⟨w.heap.size + 1, 0, none⟩ = some (.string st.f0) := blk_cell hC.h1 0
     have cn1 : W.cell? ⟨w.heap.size + 1, 1, none⟩ = some (.int .u64 st.f1.f0) := blk_cell hC.h1 1
     have cn2 : W.cell? ⟨w.heap.size + 1, 2, none⟩ = some (.int .u64 st.f1.f1) := blk_cell hC.h1 2
     have cr0 : W.cell? ⟨w.heap.size + 1 + 1, 0, none⟩ = some (.string ⟨#[]⟩) := blk_cell hC.h2 0
     have cr1 : W.cell? ⟨w.heap.size + 1 + 1, 1, none⟩ = some (.int .u64 0) := blk_cell hC.h2 1
     have cr2 : W.cell? ⟨w.heap.size + 1 + 1, 2, none⟩ = some (.int .u64 0) := blk_cell hC.h2 2
     have fr : ∀ i, W.frozen? ⟨w.heap.size + 1 + 1, i, none⟩ = false := fun i => blk_frozen hC.h2 i
     have ce : W.cell? ⟨w.heap.size + 1 + 1 + 1, 0, none⟩ = some (.int .i64 0) := blk_cell hC.h3 0
     have fe : ∀ i, W.frozen? ⟨w.heap.size + 1 + 1 + 1, i, none⟩ = false := fun i => blk_frozen hC.h3 i
     have HC := aM' hC
     have HDF := aM' hdf
     have HDD := aM' hD
     clear hu hok hC hz hdf hD hxs
     gi_wp2
     rw [HU.out]
     have hDn : w.heap.size + 1 + 1 + 1 < D := by have := HDD.out; rw [HZ.out] at this; have := HL.out; omega
     exact climb_retD (HC.out.put st 0) hDn (blk_res HDF.out (by omega) (by omega) _ _ _ _) rfl rfl (fun W' hb => ⟨rfl, hb⟩)
    case stop =>
     rintro D c2 pre W hD ⟨k, hk, hp1⟩ ⟨rfl, pre0, x, st, st', h1, h2, h3, h4⟩ hdf
     obtain ⟨rest, hrest⟩ := turnsTo_pre p l k (l.length - k)
     rw [show k + (l.length - k) = l.length by omega, ← hp1, h1, List.append_assoc] at hrest
     have HU := aM' (show climbI wd n p l = (⟨#[]⟩, 0, 0, (stepI wd st x).2.2.2) by
      rw [HI.out, hrest, climbL_up wd _ _ _ _ h2]
      show climbL wd st (x :: rest) = _
      unfold climbL; rw [if_neg h3])
     gi_wp2
     rw [HU.out]
     exact climb_retD h4 (by rw [HZ.out] at hD; have := HL.out; omega) hdf rfl rfl (fun W' hb => ⟨rfl, hb⟩)
def node_Climb.f (x0 : Int) (x1 : ByteArray) (x2 x3 p : Int) (l : List SNode) : Option (ByteArray × Int × Int × Int) :=
 if 0 ≤ p ∧ ((0 ≤ x2 ∧ x2 < 18446744073709551616) ∧ (0 ≤ x3 ∧ x3 < 18446744073709551616)) ∧ ∀ x ∈ l, (0 ≤ x.f1.f0 ∧ x.f1.f0 < 18446744073709551616) ∧ (0 ≤ x.f1.f1 ∧ x.f1.f1 < 18446744073709551616) then some (climbI x0 ⟨x1, ⟨x2, x3⟩⟩ p l) else none
theorem node_Climb.calls (x0 : Int) (x1 : ByteArray) (x2 x3 p : Int) (A : Option Addr) (c : Nat) (l : List SNode) (r1 : ByteArray) (r2 r3 r4 : Int) (w : World) (hK : Laid w) (hr : Kd.C kNode w A l.length l) (hc : l.length ≤ c) (h : node_Climb.f x0 x1 x2 x3 p l = some (r1, r2, r3, r4)) :
  Calls Tryz.prog 35 #[.int .i64 x0, .agg #[.string x1, .int .u64 x2, .int .u64 x3], .int .u64 p, .slice A l.length c] w fun e w' => e = .returned (.tuple #[.agg #[.string r1, .int .u64 r2, .int .u64 r3], .int .i64 r4]) ∧ Below w.heap.size w w' := by
 unfold node_Climb.f at h
 split at h
 ·
  rename_i hh
  have h2 := Option.some.inj h
  refine (climb.calls x0 ⟨x1, ⟨x2, x3⟩⟩ p A c l w hK hr hh.1 ⟨hh.2.1.1, hh.2.1.2⟩ (fun x hx => ⟨(hh.2.2 x hx).1, (hh.2.2 x hx).2⟩)).mono ?_
  rintro e w' ⟨rfl, hb⟩
  rw [h2]
  exact ⟨rfl, hb⟩
 ·
  cases h
end Go.Proofs.YtlmmpncdemblbaaGreatDoor.P
namespace Go.Proofs.YtlmmpncdemblbaaGreatDoor.P
open Go.RowKit Go.Proofs.YtlmmpncdemblbaaGreatDoorW.PrintWords Go.Proofs.YtlmmpncdemblbaaGreatDoorW.PrintLast Go.Proofs.YtlmmpncdemblbaaGreatDoorW.PrintMore
set_option linter.unusedVariables false
set_option linter.unusedSimpArgs false
set_option linter.unnecessarySimpa false
theorem rightS_mod (p : Int) (hp : 0 ≤ p) (h64 : p < 18446744073709551616) (k : Nat) : rightS p k = decide (p / 2 ^ k % 2 = 0) := by
 have h1 : 0 ≤ p / 2 ^ k := Int.ediv_nonneg hp (Int.le_of_lt (Int.pow_pos (by decide)))
 have h2 : p / 2 ^ k < 18446744073709551616 := Int.lt_of_le_of_lt (Int.ediv_le_self _ hp) h64
 unfold rightS
 rw [Lib.u64_and1 _ h1 h2, Bool.eq_iff_iff, beq_iff_eq, decide_eq_true_eq]
theorem refAll_loop (w : Int) (l : List SNode) (hl : l.length ≤ 9223372036854775807) : ∀ d i : Nat, i + d = l.length → Ev (fun k => paymasterref14_all.l0 k w l (i : Int)) (if (l.drop i).all (nodeOf w) then (decide (1 ≤ w) && decide (w ≤ 32)) else false) := by
 intro d
 induction d with
 | zero =>
  intro i hi
  refine Ev.step (f := fun _ => some (decide (1 ≤ w) && decide (w ≤ 32))) (fun k => ?_) (ev_eq (Ev.now _) ?_)
  ·
   simp only [paymasterref14_all.l0]; rw [if_neg (by omega)]
   by_cases h1 : w ≥ 1
   ·
    rw [if_pos h1]; have h1' : 1 ≤ w := h1; simp [h1']
   ·
    rw [if_neg h1]; have h1' : ¬ 1 ≤ w := h1; simp [h1']
  ·
   rw [List.drop_of_length_le (by omega)]; rfl
 | succ d ih =>
  intro i hi
  have hlt : i < l.length := by omega
  rw [List.drop_eq_getElem_cons hlt, List.all_cons]
  cases hb : nodeOf w l[i] with
  | false =>
   refine Ev.step (f := fun _ => some false) (fun k => ?_) (ev_eq (Ev.now false) (by simp))
   simp only [paymasterref14_all.l0]; rw [if_pos (by omega), if_pos (by omega), rdNode_nat l i hlt, ref14Of_eq, hb]; rfl
  | true =>
   refine Ev.step (f := fun k => paymasterref14_all.l0 k w l ((i + 1 : Nat) : Int)) (fun k => ?_) (ev_eq (ih (i + 1) (by omega)) (by simp))
   simp only [paymasterref14_all.l0]; rw [if_pos (by omega), if_pos (by omega), rdNode_nat l i hlt, ref14Of_eq, hb, wrap64_id (by omega) (by omega)]; rfl
theorem refAll_ev (w : Int) (l : List SNode) (hl : l.length ≤ 9223372036854775807) : Ev (fun k => paymasterref14_all.f k w l) (if l.all (nodeOf w) then (decide (1 ≤ w) && decide (w ≤ 32)) else false) := refAll_loop w l hl l.length 0 (by omega)
structure RClim (w : World) (st r2 : SNode) (W : World) : Prop where
 h1 : W.heap[w.heap.size]? = some (.cells (nodeA st) 67 (0, 0))
 h2 : W.heap[w.heap.size + 1]? = some (.cells (nodeA r2) 67 (0, 0))
 hB : Below w.heap.size w W
theorem RClim.below {w W W' : World} {st r2 : SNode} (h : RClim w st r2 W) (hb : Below W.heap.size W W') : RClim w st r2 W' :=
 ⟨blk_below h.h1 hb, blk_below h.h2 hb, h.hB.trans (hb.mono h.hB.size)⟩
theorem RClim.put {w W : World} {st r2 : SNode} (h : RClim w st r2 W) (x : SNode) :
  RClim w st x (((W.setCell ⟨w.heap.size + 1, 0, none⟩ (.string x.f0)).setCell ⟨w.heap.size + 1, 1, none⟩ (.int .u64 x.f1.f0)).setCell ⟨w.heap.size + 1, 2, none⟩ (.int .u64 x.f1.f1)) :=
 ⟨far3 h.h1 (by omega) _ _ _, put3 h.h2 x, below_set (below_set (below_set h.hB (by (try dsimp only); omega)) (by (try dsimp only); omega)) (by (try dsimp only); omega)⟩
theorem RClim.step {w W : World} {st r2 : SNode} (h : RClim w st r2 W) (x : SNode) :
  RClim w x r2 (((W.setCell ⟨w.heap.size, 0, none⟩ (.string x.f0)).setCell ⟨w.heap.size, 1, none⟩ (.int .u64 x.f1.f0)).setCell ⟨w.heap.size, 2, none⟩ (.int .u64 x.f1.f1)) :=
 ⟨put3 h.h1 x, far3 h.h2 (by omega) _ _ _, below_set (below_set (below_set h.hB (by (try dsimp only); omega)) (by (try dsimp only); omega)) (by (try dsimp only); omega)⟩
theorem refclimb_results (tmps : Array Value) (W : World) (g : Nat) (n : SNode) (e : Value) (h8 : tmps.getD 8 undef = .pointer (some ⟨g, 0, none⟩)) (h9 : tmps.getD 9 undef = e) (hg : W.heap[g]? = some (.cells (nodeA n) 67 (0, 0))) :
  (results Tryz.f31 tmps).run Tryz.prog W = .ok (.tuple #[nodeV n, e]) W := by
 have h8' : tmps[8]?.getD undef = .pointer (some ⟨g, 0, none⟩) := by simpa using h8
 have h9' : tmps[9]?.getD undef = e := by simpa using h9
 have hr : Tryz.f31.results = #[.cell 8 67, .tmp 9] := rfl
 have h1 := run_loadVar_row W g 67 67 (nodeA n) (0, 0) _ hg Tryz.underlying67 rfl (by kernel_rfl)
 simp [results, hr, h8', h9', asAddr, h1]
def NormQ (R : Act → World → Prop) (e : Exit) (a : Act) (w : World) : Prop := match e with | .normal => R a w | _ => False
set_option maxRecDepth 100000 in
set_option maxHeartbeats 4000000 in
theorem refclimb.calls (wd : Int) (n : SNode) (p : Int) (A : Option Addr) (c : Nat) (l : List SNode) (w : World) (hK : Laid w) (hr : Kd.C kNode w A l.length l) (hc : l.length ≤ c) (hp : 0 ≤ p ∧ p < 18446744073709551616) (un : OkU n.f1) (ul : ∀ x ∈ l, OkU x.f1) :
  Calls Tryz.prog 31 #[.int .i64 wd, nodeV n, .int .u64 p, .slice A l.length c] w fun e w' => e = .returned (.tuple #[nodeV (nodeJ (climbI wd n p l)), .int .i64 (climbI wd n p l).2.2.2]) ∧ Below w.heap.size w w' := by
 have HR := aM' hr
 have HK := aM' hK
 have UN := aM' un
 have UL := aM' ul
 have HCC := aM' hc
 clear hr hK un ul hc
 go_enter Tryz.func31, Tryz.ntmps31
 go_wp2_with fail
 refine (paymasterref14_Of.calls wd n.f0 n.f1.f0 n.f1.f1 (nodeOf wd n) _ (ref14Of_eq wd n)).mono ?_
 rintro e w1 ⟨rfl, hb⟩
 have hC : w1.heap[w.heap.size]? = some (.cells (nodeA n) 67 (0, 0)) := blk_below (blk_alloc (blk_new w _) _) hb
 have hD : w1.heap[w.heap.size + 1]? = some (.cells (nodeA ⟨⟨#[]⟩, ⟨0, 0⟩⟩) 67 (0, 0)) := by
  have := blk_new (w.alloc (.cells (nodeA n) 67)) (.cells (nodeA ⟨⟨#[]⟩, ⟨0, 0⟩⟩) 67)
  rw [World.size_alloc] at this
  exact blk_below this hb
 have hB : Below w.heap.size w w1 := (below_alloc (below_alloc (Below.refl _ _) _) _).trans (hb.mono (by simp; omega))
 have HC := aM' hC
 have HD := aM' hD
 have HB := aM' hB
 clear hb hC hD hB
 cases hof : nodeOf wd n with
 | false =>
  have HI := aM' (show climbI wd n p l = (⟨#[]⟩, 0, 0, 70) by unfold climbI; rw [if_neg (by rw [hof]; simp)])
  have HRC := aM' (show RClim w n ⟨⟨#[]⟩, ⟨0, 0⟩⟩ w1 from ⟨HC.out, HD.out, HB.out⟩)
  have cr0 : w1.cell? ⟨w.heap.size + 1, 0, none⟩ = some (.string ⟨#[]⟩) := blk_cell HD.out 0
  have cr1 : w1.cell? ⟨w.heap.size + 1, 1, none⟩ = some (.int .u64 0) := blk_cell HD.out 1
  have cr2 : w1.cell? ⟨w.heap.size + 1, 2, none⟩ = some (.int .u64 0) := blk_cell HD.out 2
  have fr : ∀ i, w1.frozen? ⟨w.heap.size + 1, i, none⟩ = false := fun i => blk_frozen HD.out i
  clear HC HD HB
  go_wp2
  rw [HI.out]
  exact bodyPost_ret (refclimb_results _ _ _ ⟨⟨#[]⟩, ⟨0, 0⟩⟩ _ rfl rfl (HRC.out.put ⟨⟨#[]⟩, ⟨0, 0⟩⟩).h2) rfl ⟨rfl, (HRC.out.put ⟨⟨#[]⟩, ⟨0, 0⟩⟩).hB⟩
 | true =>
  have hmx : l.length ≤ 9223372036854775807 := Kd.C_max HR.out
  obtain ⟨ka, hka⟩ := refAll_ev wd l hmx
  have hka := hka ka (Nat.le_refl _)
  rw [show (if l.all (nodeOf wd) then (decide (1 ≤ wd) && decide (wd ≤ 32)) else false) = l.all (nodeOf wd) by
   obtain ⟨h1, h2, _⟩ := nodeOf_w hof
   cases l.all (nodeOf wd) <;> simp [h1, h2]] at hka
  have HKA := aM' hka
  clear hka hmx
  go_wp2_with fail
  refine (paymasterref14_all.calls ka wd A c l _ _ (Kd.C_below HR.out HB.out) HCC.out HKA.out).mono ?_
  rintro e w2 ⟨rfl, hb⟩
  have HC2 := aM' (blk_below HC.out hb)
  have HD2 := aM' (blk_below HD.out hb)
  have HB2 := aM' (HB.out.trans (hb.mono HB.out.size))
  clear hb HC HD
  cases hal : l.all (nodeOf wd) with
  | false =>
   have HI := aM' (show climbI wd n p l = (⟨#[]⟩, 0, 0, 70) by unfold climbI; rw [if_neg (by rw [hal]; simp)])
   have HRC := aM' (show RClim w n ⟨⟨#[]⟩, ⟨0, 0⟩⟩ w2 from ⟨HC2.out, HD2.out, HB2.out⟩)
   have cr0 : w2.cell? ⟨w.heap.size + 1, 0, none⟩ = some (.string ⟨#[]⟩) := blk_cell HD2.out 0
   have cr1 : w2.cell? ⟨w.heap.size + 1, 1, none⟩ = some (.int .u64 0) := blk_cell HD2.out 1
   have cr2 : w2.cell? ⟨w.heap.size + 1, 2, none⟩ = some (.int .u64 0) := blk_cell HD2.out 2
   have fr : ∀ i, w2.frozen? ⟨w.heap.size + 1, i, none⟩ = false := fun i => blk_frozen HD2.out i
   clear HC2 HD2 HB2
   go_wp2
   rw [HI.out]
   exact bodyPost_ret (refclimb_results _ _ _ ⟨⟨#[]⟩, ⟨0, 0⟩⟩ _ rfl rfl (HRC.out.put ⟨⟨#[]⟩, ⟨0, 0⟩⟩).h2) rfl ⟨rfl, (HRC.out.put ⟨⟨#[]⟩, ⟨0, 0⟩⟩).hB⟩
  | true =>
   by_cases h63 : 63 < l.length
   ·
    have b1 : decide (63 < (l.length : Int)) = true := decide_eq_true (by omega)
    have HI := aM' (show climbI wd n p l = (⟨#[]⟩, 0, 0, 2) by unfold climbI; rw [if_pos ⟨hof, hal⟩, if_pos h63])
    have HRC := aM' (show RClim w n ⟨⟨#[]⟩, ⟨0, 0⟩⟩ w2 from ⟨HC2.out, HD2.out, HB2.out⟩)
    have cr0 : w2.cell? ⟨w.heap.size + 1, 0, none⟩ = some (.string ⟨#[]⟩) := blk_cell HD2.out 0
    have cr1 : w2.cell? ⟨w.heap.size + 1, 1, none⟩ = some (.int .u64 0) := blk_cell HD2.out 1
    have cr2 : w2.cell? ⟨w.heap.size + 1, 2, none⟩ = some (.int .u64 0) := blk_cell HD2.out 2
    have fr : ∀ i, w2.frozen? ⟨w.heap.size + 1, i, none⟩ = false := fun i => blk_frozen HD2.out i
    clear HC2 HD2 HB2
    go_wp2
    rw [HI.out]
    exact bodyPost_ret (refclimb_results _ _ _ ⟨⟨#[]⟩, ⟨0, 0⟩⟩ _ rfl rfl (HRC.out.put ⟨⟨#[]⟩, ⟨0, 0⟩⟩).h2) rfl ⟨rfl, (HRC.out.put ⟨⟨#[]⟩, ⟨0, 0⟩⟩).hB⟩
   ·
    have b1 : decide (63 < (l.length : Int)) = false := decide_eq_false (by omega)
    have HI := aM' (show climbI wd n p l = climbL wd n (turnsTo p l l.length) by unfold climbI; rw [if_pos ⟨hof, hal⟩, if_neg h63])
    have HRC := aM' (show RClim w n ⟨⟨#[]⟩, ⟨0, 0⟩⟩ w2 from ⟨HC2.out, HD2.out, HB2.out⟩)
    have HP := aM' hp
    have H63 := aM' h63
    clear HC2 HD2 HB2 HB HKA hof hal hp h63
    go_wp2
    clear b1
    obtain ⟨B1, hB1⟩ : ∃ B1, w.heap.size = B1 := ⟨_, rfl⟩
    rw [hB1]
    have HB1 := aM' hB1
    clear hB1
    go_loopw [2, 10] (fun v2 v10 wr => ∃ (k : Nat) (st : SNode) (q : Int), k ≤ l.length ∧ Aside0 (q = p / 2 ^ k) ∧ (0 ≤ q ∧ q < 18446744073709551616) ∧ v2 = .int .u64 q ∧ v10 = .int .i64 k ∧ Aside0 (upTo wd n (turnsTo p l k) = some st) ∧ Aside0 (OkU st.f1) ∧ Aside0 (RClim w st ⟨⟨#[]⟩, ⟨0, 0⟩⟩ wr)) (fun _ v10 _ => l.length - (intOf v10).toNat)
    case atStart => exact ⟨0, n, p, Nat.zero_le _, ⟨by simp⟩, HP.out, rfl, rfl, ⟨rfl⟩, UN, HRC⟩
    case round =>
     obtain ⟨k, st, q, hk, HQ, ⟨hq0, hq1⟩, rfl, rfl, HU, HOK, HC⟩ := hrel
     have hk63 : (k : Int) ≤ 63 := by have := H63.out; omega
     by_cases hlt : k < l.length
     ·
      have b1 : decide ((k : Int) < (l.length : Int)) = true := decide_eq_true (by omega)
      have p1 : 0 ≤ (k : Int) := by omega
      have p2 : (k : Int) < (l.length : Int) := by omega
      obtain ⟨ad, e, hx0, hx1, hx2⟩ := at_TNode (Kd.C_below HR.out HC.out.hB) (k : Int) p1 p2
      rw [rd_TNode_at l k hlt, Int.toNat_natCast] at hx0 hx1 hx2
      obtain ⟨x, hx⟩ : ∃ x, x = l[k] := ⟨_, rfl⟩
      rw [← hx] at hx0 hx1 hx2
      have HX := aM' hx
      clear hx
      cases e
      have cn0 : wr.cell? ⟨B1, 0, none⟩ = some (.string st.f0) := by rw [← HB1.out]; exact blk_cell HC.out.h1 0
      have cn1 : wr.cell? ⟨B1, 1, none⟩ = some (.int .u64 st.f1.f0) := by rw [← HB1.out]; exact blk_cell HC.out.h1 1
      have cn2 : wr.cell? ⟨B1, 2, none⟩ = some (.int .u64 st.f1.f1) := by rw [← HB1.out]; exact blk_cell HC.out.h1 2
      have hlw : B1 < wr.heap.size := by rw [← HB1.out]; exact blk_lt HC.out.h1
      have q3 : B1 ≠ wr.heap.size := by omega
      have q4 : B1 ≠ wr.heap.size + 1 := by omega
      have hla : ad.block < wr.heap.size := nodes_block (Kd.C_below HR.out HC.out.hB) (by omega)
      have eb : ∀ j, (ad.add j).block = ad.block := fun j => by unfold Addr.add; split <;> rfl
      have q1 : (ad.add (k * 3)).block ≠ wr.heap.size := by rw [eb]; omega
      have q2 : (ad.add (k * 3)).block ≠ wr.heap.size + 1 := by rw [eb]; omega
      have g0 : ∀ o, (wr.alloc o).cell? (ad.add (k * 3)) = some (.string x.f0) := fun o => ((below_alloc (Below.refl wr.heap.size wr) o).cell (by rw [eb]; exact hla)).trans hx0
      have f0 : ∀ o o', ((wr.alloc o).alloc o').cell? (ad.add (k * 3)) = some (.string x.f0) := fun o o' => ((below_alloc (below_alloc (Below.refl wr.heap.size wr) o) o').cell (by rw [eb]; exact hla)).trans hx0
      have g1 : ∀ o, (wr.alloc o).cell? (⟨(ad.add (k * 3)).block, (ad.add (k * 3)).off + 1, none⟩) = some (.int .u64 x.f1.f0) := fun o => ((below_alloc (Below.refl wr.heap.size wr) o).cell (by dsimp only; rw [eb]; exact hla)).trans hx1
      have f1 : ∀ o o', ((wr.alloc o).alloc o').cell? (⟨(ad.add (k * 3)).block, (ad.add (k * 3)).off + 1, none⟩) = some (.int .u64 x.f1.f0) := fun o o' => ((below_alloc (below_alloc (Below.refl wr.heap.size wr) o) o').cell (by dsimp only; rw [eb]; exact hla)).trans hx1
      have g2 : ∀ o, (wr.alloc o).cell? (⟨(ad.add (k * 3)).block, (ad.add (k * 3)).off + 2, none⟩) = some (.int .u64 x.f1.f1) := fun o => ((below_alloc (Below.refl wr.heap.size wr) o).cell (by dsimp only; rw [eb]; exact hla)).trans hx2
      have f2 : ∀ o o', ((wr.alloc o).alloc o').cell? (⟨(ad.add (k * 3)).block, (ad.add (k * 3)).off + 2, none⟩) = some (.int .u64 x.f1.f1) := fun o o' => ((below_alloc (below_alloc (Below.refl wr.heap.size wr) o) o').cell (by dsimp only; rw [eb]; exact hla)).trans hx2
      clear eb
      go_upto_region 8 with (fail)
      have HOX := aM' (UL.out x (by rw [HX.out]; exact List.getElem_mem _))
      refine wp_mono (Q := NormQ fun a' W' => ∃ b12 b13, a' = ({ tmps := #[.int .i64 wd, nodeV n, .int .u64 q, .slice (some ad) l.length c, undef, .pointer (some ⟨B1, 0, none⟩), undef, undef, .pointer (some ⟨B1 + 1, 0, none⟩), u9, .int .i64 (k : Int), .pointer (some ⟨b12, 0, none⟩), .pointer (some ⟨b13, 0, none⟩), u13, u14, .int .i64 wd, .agg #[.string n.f0, .int .u64 n.f1.f0, .int .u64 n.f1.f1], .bool true, .bool false, .bool false, .int .i64 wd, .slice (some ad) l.length c, .bool true, .bool false, .bool false, undef, .slice (some ad) l.length c, .int .i64 (l.length : Int), .bool false, undef, .int .i64 (k : Int), .slice (some ad) l.length c, .int .i64 (l.length : Int), .bool true, u34, u35, .agg #[.string st.f0, .int .u64 st.f1.f0, .int .u64 st.f1.f1], .slice (some ad) l.length c, .int .i64 (k : Int), .pointer (some (ad.add (k * 3))), .agg #[.string x.f0, .int .u64 x.f1.f0, .int .u64 x.f1.f1], u41, u42, u43, u44, u45, u46, u47, u48, u49, u50, u51, u52, u53, u54, u55, u56, u57, u58, u59, undef], defers := [] } : Act) ∧ Two wr b12 b13 st x W') ?r8 ?k8
      case r8 =>
       clear HU HOK HI HK UN UL HRC HP H63 HQ HOX HC HX HB1 hq0 hq1
       go_region_with (fail)
       all_goals
        refine ⟨_, _, rfl, ?_⟩
        with_reducible first | exact climb_twoA wr st x | exact climb_twoB wr st x
      case k8 =>
      clear cn0 cn1 cn2 hlw q1 q2 q3 q4 hx0 hx1 hx2 hla g0 g1 g2 f0 f1 f2
      intro e a' W' hN
      cases e with
      | normal => ?_
      | _ => exact hN.elim
      obtain ⟨b12, b13, rfl, hT⟩ := hN
      have HT := aM' hT
      clear hT
      dsimp only
      by_cases hr : q % 2 = 0
      ·
       have b2 : (q % 2 == 1) = false := by simp; omega
       have hC5 := HC.out.below HT.out.hB
       have HC5 := aM' hC5
       have g1 : W'.cell? ⟨b12, 0, none⟩ = some (.string st.f0) := blk_cell HT.out.h12 0
       have g2 : W'.cell? ⟨b12, 1, none⟩ = some (.int .u64 st.f1.f0) := blk_cell HT.out.h12 1
       have g3 : W'.cell? ⟨b12, 2, none⟩ = some (.int .u64 st.f1.f1) := blk_cell HT.out.h12 2
       have g4 : W'.cell? ⟨b13, 0, none⟩ = some (.string x.f0) := blk_cell HT.out.h13 0
       have g5 : W'.cell? ⟨b13, 1, none⟩ = some (.int .u64 x.f1.f0) := blk_cell HT.out.h13 1
       have g6 : W'.cell? ⟨b13, 2, none⟩ = some (.int .u64 x.f1.f1) := blk_cell HT.out.h13 2
       clear hC5
       rcases hj : joinI wd st x with ⟨r1, r2, r3, r4⟩
       have hs : stepI wd st (x, true) = (r1, r2, r3, r4) := hj
       have hok2 := joinI_ok wd st x HOK.out HOX.out
       obtain ⟨kk, hkk⟩ := (refJoin_ev wd st x HOK.out HOX.out)
       have HJ := aM' (hkk kk (Nat.le_refl _))
       have HS2 := aM' hs
       rw [hj] at HJ hok2
       have HOK2 := aM' hok2
       have HRS := aM' (show turnsTo p l (k + 1) = turnsTo p l k ++ [(x, true)] by rw [turnsTo_succ p l k hlt, HX.out, rightS_mod p HP.out.1 HP.out.2 k, ← HQ.out]; rw [decide_eq_true hr])
       have HQ2 := aM' (show q / 2 = p / 2 ^ (k + 1) by rw [HQ.out, Int.pow_succ, Int.ediv_ediv_of_nonneg (Int.le_of_lt (Int.pow_pos (by decide)))])
       clear hkk hj hs hok2
       go_wp2_with fail
       refine (paymasterref14_Join.calls kk wd st.f0 st.f1.f0 st.f1.f1 x.f0 x.f1.f0 x.f1.f1 r1 r2 r3 r4 _ HJ.out).mono ?_
       rintro e w5 ⟨rfl, hb5⟩
       clear g1 g2 g3 g4 g5 g6
       have hC6 := HC5.out.below hb5
       have HC6 := aM' hC6
       have hlz := blk_lt hC6.h2
       have q3 : B1 ≠ w5.heap.size := by have := HB1.out; omega
       have q4 : B1 + 1 ≠ w5.heap.size := by have := HB1.out; omega
       have z3 : B1 < w5.heap.size := by have := HB1.out; omega
       have z4 : B1 + 1 < w5.heap.size := by have := HB1.out; omega
       clear hb5 hlz
       by_cases h0 : r4 = 0
       ·
        subst h0
        have cn0 : w5.cell? ⟨B1, 0, none⟩ = some (.string st.f0) := by rw [← HB1.out]; exact blk_cell hC6.h1 0
        have cn1 : w5.cell? ⟨B1, 1, none⟩ = some (.int .u64 st.f1.f0) := by rw [← HB1.out]; exact blk_cell hC6.h1 1
        have cn2 : w5.cell? ⟨B1, 2, none⟩ = some (.int .u64 st.f1.f1) := by rw [← HB1.out]; exact blk_cell hC6.h1 2
        have fn : ∀ i, w5.frozen? ⟨B1, i, none⟩ = false := fun i => by rw [← HB1.out]; exact blk_frozen hC6.h1 i
        clear hC6
        go_wp2
        go_roundw
        case rel =>
         refine ⟨k + 1, nodeJ (r1, r2, r3, 0), q / 2, hlt, HQ2, ⟨by omega, by omega⟩, rfl, by go_num, ?_, HOK2, ?_⟩
         ·
          have := upTo_snoc wd (x, true) _ _ _ HU.out (by rw [HS2.out])
          rw [HS2.out, ← HRS.out] at this
          exact ⟨this⟩
         ·
          have := (HC6.out.step (nodeJ (r1, r2, r3, 0))).below (below_alloc (Below.refl _ _) (.cells #[.string r1, .int .u64 r2, .int .u64 r3] 67))
          rw [HB1.out] at this
          exact ⟨this⟩
        case measure => simp [intOf]; omega
       ·
        have b1 : (r4 != 0) = true := by simp [h0]
        have cr0 : w5.cell? ⟨B1 + 1, 0, none⟩ = some (.string ⟨#[]⟩) := by rw [← HB1.out]; exact blk_cell hC6.h2 0
        have cr1 : w5.cell? ⟨B1 + 1, 1, none⟩ = some (.int .u64 0) := by rw [← HB1.out]; exact blk_cell hC6.h2 1
        have cr2 : w5.cell? ⟨B1 + 1, 2, none⟩ = some (.int .u64 0) := by rw [← HB1.out]; exact blk_cell hC6.h2 2
        have fr : ∀ i, w5.frozen? ⟨B1 + 1, i, none⟩ = false := fun i => by rw [← HB1.out]; exact blk_frozen hC6.h2 i
        have HFI := aM' (show climbI wd n p l = (⟨#[]⟩, 0, 0, r4) by
         obtain ⟨rest, hrest⟩ := turnsTo_pre p l (k + 1) (l.length - (k + 1))
         rw [show k + 1 + (l.length - (k + 1)) = l.length by omega, HRS.out, List.append_assoc] at hrest
         rw [HI.out, hrest, climbL_up wd _ _ _ _ HU.out]
         show climbL wd st ((x, true) :: rest) = _
         unfold climbL; rw [HS2.out, if_neg h0])
        clear hC6
        go_wp2
        rw [HFI.out]
        have hend := (HC6.out.put ⟨⟨#[]⟩, ⟨0, 0⟩⟩).below (below_alloc (Below.refl _ _) (.cells #[.string r1, .int .u64 r2, .int .u64 r3] 67))
        rw [HB1.out] at hend
        exact bodyPost_ret (refclimb_results _ _ _ ⟨⟨#[]⟩, ⟨0, 0⟩⟩ _ rfl rfl (HB1.out ▸ hend.h2)) rfl ⟨rfl, hend.hB⟩
      ·
       have b2 : (q % 2 == 1) = true := by simp; omega
       have g1 : W'.cell? ⟨b12, 0, none⟩ = some (.string st.f0) := blk_cell HT.out.h12 0
       have g2 : W'.cell? ⟨b12, 1, none⟩ = some (.int .u64 st.f1.f0) := blk_cell HT.out.h12 1
       have g3 : W'.cell? ⟨b12, 2, none⟩ = some (.int .u64 st.f1.f1) := blk_cell HT.out.h12 2
       have g4 : W'.cell? ⟨b13, 0, none⟩ = some (.string x.f0) := blk_cell HT.out.h13 0
       have g5 : W'.cell? ⟨b13, 1, none⟩ = some (.int .u64 x.f1.f0) := blk_cell HT.out.h13 1
       have g6 : W'.cell? ⟨b13, 2, none⟩ = some (.int .u64 x.f1.f1) := blk_cell HT.out.h13 2
       have f12 : ∀ i, W'.frozen? ⟨b12, i, none⟩ = false := fun i => blk_frozen HT.out.h12 i
       have f13 : ∀ i, W'.frozen? ⟨b13, i, none⟩ = false := fun i => blk_frozen HT.out.h13 i
       have u5 : b12 ≠ b13 := HT.out.ne
       have u6 : b13 ≠ b12 := Ne.symm HT.out.ne
       have hC5 := HC.out.below (HT.out.put x st).hB
       have HC5 := aM' hC5
       clear hC5
       rcases hj : joinI wd x st with ⟨r1, r2, r3, r4⟩
       have hs : stepI wd st (x, false) = (r1, r2, r3, r4) := hj
       have hok2 := joinI_ok wd x st HOX.out HOK.out
       obtain ⟨kk, hkk⟩ := (refJoin_ev wd x st HOX.out HOK.out)
       have HJ := aM' (hkk kk (Nat.le_refl _))
       have HS2 := aM' hs
       rw [hj] at HJ hok2
       have HOK2 := aM' hok2
       have HRS := aM' (show turnsTo p l (k + 1) = turnsTo p l k ++ [(x, false)] by rw [turnsTo_succ p l k hlt, HX.out, rightS_mod p HP.out.1 HP.out.2 k, ← HQ.out]; rw [decide_eq_false hr])
       have HQ2 := aM' (show q / 2 = p / 2 ^ (k + 1) by rw [HQ.out, Int.pow_succ, Int.ediv_ediv_of_nonneg (Int.le_of_lt (Int.pow_pos (by decide)))])
       clear hkk hj hs hok2
       go_wp2_with fail
       refine (paymasterref14_Join.calls kk wd x.f0 x.f1.f0 x.f1.f1 st.f0 st.f1.f0 st.f1.f1 r1 r2 r3 r4 _ HJ.out).mono ?_
       rintro e w5 ⟨rfl, hb5⟩
       clear g1 g2 g3 g4 g5 g6 f12 f13 u5 u6
       have hC6 := HC5.out.below hb5
       have HC6 := aM' hC6
       have hlz := blk_lt hC6.h2
       have q3 : B1 ≠ w5.heap.size := by have := HB1.out; omega
       have q4 : B1 + 1 ≠ w5.heap.size := by have := HB1.out; omega
       have z3 : B1 < w5.heap.size := by have := HB1.out; omega
       have z4 : B1 + 1 < w5.heap.size := by have := HB1.out; omega
       clear hb5 hlz
       by_cases h0 : r4 = 0
       ·
        subst h0
        have cn0 : w5.cell? ⟨B1, 0, none⟩ = some (.string st.f0) := by rw [← HB1.out]; exact blk_cell hC6.h1 0
        have cn1 : w5.cell? ⟨B1, 1, none⟩ = some (.int .u64 st.f1.f0) := by rw [← HB1.out]; exact blk_cell hC6.h1 1
        have cn2 : w5.cell? ⟨B1, 2, none⟩ = some (.int .u64 st.f1.f1) := by rw [← HB1.out]; exact blk_cell hC6.h1 2
        have fn : ∀ i, w5.frozen? ⟨B1, i, none⟩ = false := fun i => by rw [← HB1.out]; exact blk_frozen hC6.h1 i
        clear hC6
        go_wp2
        go_roundw
        case rel =>
         refine ⟨k + 1, nodeJ (r1, r2, r3, 0), q / 2, hlt, HQ2, ⟨by omega, by omega⟩, rfl, by go_num, ?_, HOK2, ?_⟩
         ·
          have := upTo_snoc wd (x, false) _ _ _ HU.out (by rw [HS2.out])
          rw [HS2.out, ← HRS.out] at this
          exact ⟨this⟩
         ·
          have := (HC6.out.step (nodeJ (r1, r2, r3, 0))).below (below_alloc (Below.refl _ _) (.cells #[.string r1, .int .u64 r2, .int .u64 r3] 67))
          rw [HB1.out] at this
          exact ⟨this⟩
        case measure => simp [intOf]; omega
       ·
        have b1 : (r4 != 0) = true := by simp [h0]
        have cr0 : w5.cell? ⟨B1 + 1, 0, none⟩ = some (.string ⟨#[]⟩) := by rw [← HB1.out]; exact blk_cell hC6.h2 0
        have cr1 : w5.cell? ⟨B1 + 1, 1, none⟩ = some (.int .u64 0) := by rw [← HB1.out]; exact blk_cell hC6.h2 1
        have cr2 : w5.cell? ⟨B1 + 1, 2, none⟩ = some (.int .u64 0) := by rw [← HB1.out]; exact blk_cell hC6.h2 2
        have fr : ∀ i, w5.frozen? ⟨B1 + 1, i, none⟩ = false := fun i => by rw [← HB1.out]; exact blk_frozen hC6.h2 i
        have HFI := aM' (show climbI wd n p l = (⟨#[]⟩, 0, 0, r4) by
         obtain ⟨rest, hrest⟩ := turnsTo_pre p l (k + 1) (l.length - (k + 1))
         rw [show k + 1 + (l.length - (k + 1)) = l.length by omega, HRS.out, List.append_assoc] at hrest
         rw [HI.out, hrest, climbL_up wd _ _ _ _ HU.out]
         show climbL wd st ((x, false) :: rest) = _
         unfold climbL; rw [HS2.out, if_neg h0])
        clear hC6
        go_wp2
        rw [HFI.out]
        have hend := (HC6.out.put ⟨⟨#[]⟩, ⟨0, 0⟩⟩).below (below_alloc (Below.refl _ _) (.cells #[.string r1, .int .u64 r2, .int .u64 r3] 67))
        rw [HB1.out] at hend
        exact bodyPost_ret (refclimb_results _ _ _ ⟨⟨#[]⟩, ⟨0, 0⟩⟩ _ rfl rfl (HB1.out ▸ hend.h2)) rfl ⟨rfl, hend.hB⟩
     ·
      have hkl : k = l.length := by omega
      subst hkl
      have b1 : decide ((l.length : Int) < (l.length : Int)) = false := decide_eq_false (by omega)
      have HU2 := aM' (show climbI wd n p l = (st.f0, st.f1.f0, st.f1.f1, 0) by
       rw [HI.out, show turnsTo p l l.length = turnsTo p l l.length ++ [] by simp, climbL_up wd [] _ _ _ HU.out]; rfl)
      have cn0 : wr.cell? ⟨B1, 0, none⟩ = some (.string st.f0) := by rw [← HB1.out]; exact blk_cell HC.out.h1 0
      have cn1 : wr.cell? ⟨B1, 1, none⟩ = some (.int .u64 st.f1.f0) := by rw [← HB1.out]; exact blk_cell HC.out.h1 1
      have cn2 : wr.cell? ⟨B1, 2, none⟩ = some (.int .u64 st.f1.f1) := by rw [← HB1.out]; exact blk_cell HC.out.h1 2
      have cr0 : wr.cell? ⟨B1 + 1, 0, none⟩ = some (.string ⟨#[]⟩) := by rw [← HB1.out]; exact blk_cell HC.out.h2 0
      have cr1 : wr.cell? ⟨B1 + 1, 1, none⟩ = some (.int .u64 0) := by rw [← HB1.out]; exact blk_cell HC.out.h2 1
      have cr2 : wr.cell? ⟨B1 + 1, 2, none⟩ = some (.int .u64 0) := by rw [← HB1.out]; exact blk_cell HC.out.h2 2
      have fr : ∀ i, wr.frozen? ⟨B1 + 1, i, none⟩ = false := fun i => by rw [← HB1.out]; exact blk_frozen HC.out.h2 i
      go_wp2
      rw [HU2.out]
      have hend := HC.out.put st
      rw [HB1.out] at hend
      exact bodyPost_ret (refclimb_results _ _ _ st _ rfl rfl (HB1.out ▸ hend.h2)) rfl ⟨rfl, hend.hB⟩
def paymasterref14_Climb.f (x0 : Int) (x1 : ByteArray) (x2 x3 p : Int) (l : List SNode) : Option (ByteArray × Int × Int × Int) :=
 if (0 ≤ p ∧ p < 18446744073709551616) ∧ ((0 ≤ x2 ∧ x2 < 18446744073709551616) ∧ (0 ≤ x3 ∧ x3 < 18446744073709551616)) ∧ ∀ x ∈ l, (0 ≤ x.f1.f0 ∧ x.f1.f0 < 18446744073709551616) ∧ (0 ≤ x.f1.f1 ∧ x.f1.f1 < 18446744073709551616) then some (climbI x0 ⟨x1, ⟨x2, x3⟩⟩ p l) else none
theorem paymasterref14_Climb.calls (x0 : Int) (x1 : ByteArray) (x2 x3 p : Int) (A : Option Addr) (c : Nat) (l : List SNode) (r1 : ByteArray) (r2 r3 r4 : Int) (w : World) (hK : Laid w) (hr : Kd.C kNode w A l.length l) (hc : l.length ≤ c) (h : paymasterref14_Climb.f x0 x1 x2 x3 p l = some (r1, r2, r3, r4)) :
  Calls Tryz.prog 31 #[.int .i64 x0, .agg #[.string x1, .int .u64 x2, .int .u64 x3], .int .u64 p, .slice A l.length c] w fun e w' => e = .returned (.tuple #[.agg #[.string r1, .int .u64 r2, .int .u64 r3], .int .i64 r4]) ∧ Below w.heap.size w w' := by
 unfold paymasterref14_Climb.f at h
 split at h
 ·
  rename_i hh
  have h2 := Option.some.inj h
  refine (refclimb.calls x0 ⟨x1, ⟨x2, x3⟩⟩ p A c l w hK hr hc hh.1 ⟨hh.2.1.1, hh.2.1.2⟩ (fun x hx => ⟨(hh.2.2 x hx).1, (hh.2.2 x hx).2⟩)).mono ?_
  rintro e w' ⟨rfl, hb⟩
  rw [h2]
  exact ⟨rfl, hb⟩
 ·
  cases h
end Go.Proofs.YtlmmpncdemblbaaGreatDoor.P
namespace Go.Proofs.YtlmmpncdemblbaaGreatDoor.P
open Go.RowKit Go.Proofs.YtlmmpncdemblbaaGreatDoorW.PrintWords Go.Proofs.YtlmmpncdemblbaaGreatDoorW.PrintLast Go.Proofs.YtlmmpncdemblbaaGreatDoorW.PrintMore
set_option linter.unusedVariables false
set_option linter.unusedSimpArgs false
set_option linter.unnecessarySimpa false
structure OkE (e : SEntry) : Prop where
 id : e.f0.f1.size ≤ 1000000
 sa : e.f0.f2.size ≤ 1000000
 ub : OkU e.f0.f3
 p : 0 ≤ e.f1.f0 ∧ e.f1.f0 < 18446744073709551616
 us : ∀ x ∈ e.f1.f1, OkU x.f1
 ls : e.f1.f1.length ≤ 9223372036854775807
def climbE (w : Int) (e : SEntry) : ByteArray × Int × Int × Int := climbI w (leafNodeI w e.f0) e.f1.f0 e.f1.f1
def upI (w : Int) (e : SEntry) : ByteArray × Int × Int × Int × Int :=
 if mayLeafI e.f0 = true then
  (if shapeN w (e.f1.f1.length : Int) e.f1.f0 e.f1.f1 = 0 then
   (if (climbE w e).2.2.2 = 0 then ((climbE w e).1, (climbE w e).2.1, (climbE w e).2.2.1, (e.f1.f1.length : Int), 0) else (⟨#[]⟩, 0, 0, 0, (climbE w e).2.2.2))
  else (⟨#[]⟩, 0, 0, 0, shapeN w (e.f1.f1.length : Int) e.f1.f0 e.f1.f1))
 else (⟨#[]⟩, 0, 0, 0, 130)
def mayRI (r : SRoot) : Int := if r.f2 < 0 ∨ r.f2 > 63 then 120 else if (r.f0.size : Int) < 1 ∨ (r.f0.size : Int) > 32 then 70 else 0
def checkI (r : SRoot) (e : SEntry) : Int :=
 if mayRI r = 0 then
  (if mayLeafI e.f0 = true then
   (if shapeN (r.f0.size : Int) r.f2 e.f1.f0 e.f1.f1 = 0 then
    (if (climbE (r.f0.size : Int) e).2.2.2 = 0 then
     (if (climbE (r.f0.size : Int) e).1.toList = r.f0.toList ∧ (climbE (r.f0.size : Int) e).2.1 = r.f1.f0 ∧ (climbE (r.f0.size : Int) e).2.2.1 = r.f1.f1 then 0 else 160)
    else (climbE (r.f0.size : Int) e).2.2.2)
   else shapeN (r.f0.size : Int) r.f2 e.f1.f0 e.f1.f1)
  else 130)
 else mayRI r
theorem nodeClimb_eq (w : Int) (e : SEntry) (h : OkE e) : node_Climb.f w (leafNodeI w e.f0).f0 (leafNodeI w e.f0).f1.f0 (leafNodeI w e.f0).f1.f1 e.f1.f0 e.f1.f1 = some (climbE w e) := by
 have u := leafNodeI_ok w e.f0 h.ub
 unfold node_Climb.f climbE
 rw [if_pos ⟨h.p.1, ⟨u.h0, u.h1⟩, fun x hx => ⟨(h.us x hx).h0, (h.us x hx).h1⟩⟩]
theorem refClimb_eq (w : Int) (e : SEntry) (h : OkE e) : paymasterref14_Climb.f w (leafNodeI w e.f0).f0 (leafNodeI w e.f0).f1.f0 (leafNodeI w e.f0).f1.f1 e.f1.f0 e.f1.f1 = some (climbE w e) := by
 have u := leafNodeI_ok w e.f0 h.ub
 unfold paymasterref14_Climb.f climbE
 rw [if_pos ⟨h.p, ⟨u.h0, u.h1⟩, fun x hx => ⟨(h.us x hx).h0, (h.us x hx).h1⟩⟩]
theorem verifyMay_ev (r : SRoot) : Ev (fun k => verify_May.f k r.f0 r.f1.f0 r.f1.f1 r.f2) (mayRI r) := by
 have hj : ∀ b : Bool, (b = true ↔ (r.f2 < 0 ∨ r.f2 > 63)) → Ev (fun k => verify_May.j0 k b r.f0 r.f1.f0 r.f1.f1 r.f2) (mayRI r) := by
  intro b hb
  refine Ev.step (f := fun _ => some (mayRI r)) (fun k => ?_) (Ev.now _)
  rw [verify_May.j0]
  unfold mayRI
  by_cases h1 : r.f2 < 0 ∨ r.f2 > 63
  ·
   rw [if_pos (hb.2 h1), if_pos h1]
  ·
   rw [if_neg (fun h => h1 (hb.1 h)), if_neg h1]
   by_cases h2 : (r.f0.size : Int) < 1
   ·
    rw [if_pos h2, if_pos (.inl h2)]
   ·
    rw [if_neg h2]
    by_cases h3 : (r.f0.size : Int) > 32
    ·
     rw [if_pos h3, if_pos (.inr h3)]
    ·
     rw [if_neg h3, if_neg (by omega)]
 unfold verify_May.f
 by_cases h : r.f2 < 0
 ·
  exact Ev.congr (fun k => by rw [if_pos h]) (hj true (by simp [h]))
 ·
  exact Ev.congr (fun k => by rw [if_neg h]) (hj (decide (r.f2 > 63)) (by simp; omega))
end Go.Proofs.YtlmmpncdemblbaaGreatDoor.P
namespace Go.Proofs.YtlmmpncdemblbaaGreatDoor.P
open Go.RowKit Go.Proofs.YtlmmpncdemblbaaGreatDoorW.PrintWords Go.Proofs.YtlmmpncdemblbaaGreatDoorW.PrintLast Go.Proofs.YtlmmpncdemblbaaGreatDoorW.PrintMore
set_option linter.unusedVariables false
set_option linter.unusedSimpArgs false
set_option linter.unnecessarySimpa false
attribute [local go_sem] sel_true
abbrev askA (r : SRoot) (e : SEntry) (A : Option Addr) (c : Nat) : Array Value := #[.string r.f0, .int .u64 r.f1.f0, .int .u64 r.f1.f1, .int .i64 r.f2, .bool e.f0.f0, .string e.f0.f1, .string e.f0.f2, .int .u64 e.f0.f3.f0, .int .u64 e.f0.f3.f1, .int .u64 e.f1.f0, .slice A e.f1.f1.length c]
structure AskS (w w' : World) (r : SRoot) (e : SEntry) (A : Option Addr) (c : Nat) : Prop where
 hB : Below w.heap.size w w'
 h0 : w'.heap[w.heap.size]? = some (.cells (askA r e A c) 54 (0, 0))
theorem AskS.of {w w' : World} {r : SRoot} {e : SEntry} {A : Option Addr} {c : Nat} {C : Prop} (h : C ∧ AskS w w' r e A c) : AskS w w' r e A c := h.2
theorem AskS.below {w w' W : World} {r : SRoot} {e : SEntry} {A : Option Addr} {c : Nat} (h : AskS w w' r e A c) (hb : Below w'.heap.size w' W) : AskS w W r e A c := ⟨h.hB.trans (hb.mono h.hB.size), blk_below h.h0 hb⟩
theorem AskS.drew {w w' : World} {r : SRoot} {e : SEntry} {A : Option Addr} {c : Nat} (h : AskS w w' r e A c) : AskS w w'.drew r e A c := h.below (below_drew (Below.refl _ _))
theorem AskS.cells {w w' : World} {r : SRoot} {e : SEntry} {A : Option Addr} {c : Nat} (h : AskS w w' r e A c) : (w'.cell? ⟨w.heap.size, 0, none⟩ = some (.string r.f0) ∧ w'.cell? ⟨w.heap.size, 1, none⟩ = some (.int .u64 r.f1.f0) ∧ w'.cell? ⟨w.heap.size, 2, none⟩ = some (.int .u64 r.f1.f1) ∧ w'.cell? ⟨w.heap.size, 3, none⟩ = some (.int .i64 r.f2) ∧ w'.cell? ⟨w.heap.size, 4, none⟩ = some (.bool e.f0.f0) ∧ w'.cell? ⟨w.heap.size, 5, none⟩ = some (.string e.f0.f1) ∧ w'.cell? ⟨w.heap.size, 6, none⟩ = some (.string e.f0.f2) ∧ w'.cell? ⟨w.heap.size, 7, none⟩ = some (.int .u64 e.f0.f3.f0) ∧ w'.cell? ⟨w.heap.size, 8, none⟩ = some (.int .u64 e.f0.f3.f1) ∧ w'.cell? ⟨w.heap.size, 9, none⟩ = some (.int .u64 e.f1.f0) ∧ w'.cell? ⟨w.heap.size, 10, none⟩ = some (.slice A e.f1.f1.length c)) ∧ AskS w w' r e A c :=
 ⟨⟨blk_cell h.h0 0, blk_cell h.h0 1, blk_cell h.h0 2, blk_cell h.h0 3, blk_cell h.h0 4, blk_cell h.h0 5, blk_cell h.h0 6, blk_cell h.h0 7, blk_cell h.h0 8, blk_cell h.h0 9, blk_cell h.h0 10⟩, h⟩
theorem AskS.put3 {w W : World} {r : SRoot} {e : SEntry} {A : Option Addr} {c : Nat} (h : AskS w W r e A c) {g : Nat} (hg : w.heap.size < g) (x y z : Value) : AskS w (((W.setCell ⟨g, 0, none⟩ x).setCell ⟨g, 1, none⟩ y).setCell ⟨g, 2, none⟩ z) r e A c :=
 ⟨below_set (below_set (below_set h.hB (by (try dsimp only); omega)) (by (try dsimp only); omega)) (by (try dsimp only); omega), far3 h.h0 (by omega) _ _ _⟩
theorem LaidT.one {w : World} (h : LaidT w) : Laid w := h.1
set_option maxRecDepth 100000 in
set_option maxHeartbeats 2000000 in
theorem askClimb.calls (r : SRoot) (e : SEntry) (A : Option Addr) (c : Nat) (w : World) (hK : LaidT w) (hr : Kd.C kNode w A e.f1.f1.length e.f1.f1) (hc : e.f1.f1.length ≤ c) (he : OkE e) (res : Int) (hres : (if (climbE (r.f0.size : Int) e).2.2.2 = 0 then (if (climbE (r.f0.size : Int) e).1.toList = r.f0.toList ∧ (climbE (r.f0.size : Int) e).2.1 = r.f1.f0 ∧ (climbE (r.f0.size : Int) e).2.2.1 = r.f1.f1 then 0 else 160) else (climbE (r.f0.size : Int) e).2.2.2) = res) :
  Calls Tryz.prog 22 #[.agg (askA r e A c)] w fun x w' => x = .returned (.int .i64 res) ∧ Below w.heap.size w w' := by
 have HK := aM' hK
 have HR := aM' hr
 have HC := aM' hc
 have HE := aM' he
 obtain ⟨kl, hkl⟩ := tagLeafNode_ev (r.f0.size : Int) e.f0 he.id he.sa
 have HL := aM' (hkl kl (Nat.le_refl _))
 have HCl := aM' (nodeClimb_eq (r.f0.size : Int) e he)
 clear hK hr hc he hkl
 generalize hcl : climbE (r.f0.size : Int) e = cl at HCl hres
 obtain ⟨c1, c2, c3, c4⟩ := cl
 clear hcl
 have HRES := aM' hres
 clear hres
 generalize hln : leafNodeI (r.f0.size : Int) e.f0 = ln at HL HCl
 clear hln
 dsimp only at HRES
 go_enter Tryz.func22, Tryz.ntmps22
 go_wp2
 have HS := aM' (show AskS w (w.alloc (.cells (askA r e A c) 54)) r e A c from ⟨below_alloc (Below.refl _ _) _, blk_new w _⟩)
 refine region_inv (fun l a W => ∃ γ : Nat, a = ({ tmps := #[.agg (askA r e A c), .pointer (some ⟨w.heap.size, 0, none⟩), .int .i64 0, sel (l 24) (.pointer (some ⟨γ, 0, none⟩)) (undef), sel (l 26) (.int .i64 c4) (undef), sel (l 21) (.tuple #[.agg #[.string c1, .int .u64 c2, .int .u64 c3], .int .i64 c4]) (undef), sel (l 0) (.pointer (some ⟨w.heap.size, 0, none⟩)) (undef), sel (l 1) (.pointer (some ⟨w.heap.size, 0, none⟩)) (undef), sel (l 2) (.string r.f0) (undef), sel (l 3) (.int .i64 (r.f0.size : Int)) (undef), sel (l 4) (.pointer (some ⟨w.heap.size, 0, none⟩)) (undef), sel (l 5) (.pointer (some ⟨w.heap.size, 0, none⟩)) (undef), sel (l 6) (.string r.f0) (undef), sel (l 7) (.int .i64 (r.f0.size : Int)) (undef), sel (l 8) (.pointer (some ⟨w.heap.size, 4, none⟩)) (undef), sel (l 9) (.pointer (some ⟨w.heap.size, 4, none⟩)) (undef), sel (l 10) (.agg #[.bool e.f0.f0, .string e.f0.f1, .string e.f0.f2, .int .u64 e.f0.f3.f0, .int .u64 e.f0.f3.f1]) (undef), sel (l 11) (.agg #[.string ln.f0, .int .u64 ln.f1.f0, .int .u64 ln.f1.f1]) (undef), sel (l 12) (.pointer (some ⟨w.heap.size, 4, none⟩)) (undef), sel (l 13) (.pointer (some ⟨w.heap.size, 9, none⟩)) (undef), sel (l 14) (.pointer (some ⟨w.heap.size, 9, none⟩)) (undef), sel (l 15) (.int .u64 e.f1.f0) (undef), sel (l 16) (.pointer (some ⟨w.heap.size, 4, none⟩)) (undef), sel (l 17) (.pointer (some ⟨w.heap.size, 9, none⟩)) (undef), sel (l 18) (.pointer (some ⟨w.heap.size, 10, none⟩)) (undef), sel (l 19) (.slice A e.f1.f1.length c) (undef), sel (l 20) (.tuple #[.agg #[.string c1, .int .u64 c2, .int .u64 c3], .int .i64 c4]) (undef), sel (l 22) (.agg #[.string c1, .int .u64 c2, .int .u64 c3]) (undef), sel (l 23) (.int .i64 c4) (undef), undef, undef, undef, undef, undef, undef, undef, undef, undef, undef, undef, undef, undef, undef, undef, undef, undef, undef, undef], defers := [] } : Act) ∧ (AskS w W r e A c ∧ (l 25 = true → l 24 = true) ∧ (l 24 = true → w.heap.size < γ ∧ W.heap[γ]? = some (.cells (if l 25 = true then #[.string c1, .int .u64 c2, .int .u64 c3] else #[.string ⟨#[]⟩, .int .u64 0, .int .u64 0]) 67 (0, 0))))) 27 rfl rfl (by kernel_rfl) ?h0 ?hend ?hstep
 case h0 => exact ⟨0, rfl, HS.out.drew, (fun h => by cases h), fun h => by cases h⟩
 case hstep =>
  refine rg_cons (rg_cons (rg_cons (rg_cons (rg_cons (rg_cons (rg_cons (rg_cons (rg_cons (rg_cons (rg_cons (rg_cons (rg_cons (rg_cons (rg_cons (rg_cons (rg_cons (rg_cons (rg_cons (rg_cons (rg_cons (rg_cons (rg_cons (rg_cons (rg_cons (rg_cons (rg_cons (rg_nil) ?s0) ?s1) ?s2) ?s3) ?s4) ?s5) ?s6) ?s7) ?s8) ?s9) ?s10) ?s11) ?s12) ?s13) ?s14) ?s15) ?s16) ?s17) ?s18) ?s19) ?s20) ?s21) ?s22) ?s23) ?s24) ?s25) ?s26
  case s0 =>
   refine rg_step rfl ?_
   rintro l a W ⟨γ, rfl, hI⟩ hl hd
   clear hd
   refine rg_val (v := .pointer (some ⟨w.heap.size, 0, none⟩)) (w' := W) rfl (by go_simp) ?_
   refine ⟨γ, ?_, ?_⟩
   ·
    simp only [Act.put, List.setIfInBounds_toArray, List.set_cons_zero, List.set_cons_succ]; rfl
   ·
    exact hI
  case s1 =>
   refine rg_step rfl ?_
   rintro l a W ⟨γ, rfl, hI⟩ hl hd
   have d0 := hd 0 (by decide)
   clear hd
   refine rg_val (v := .pointer (some ⟨w.heap.size, 0, none⟩)) (w' := W) rfl (by go_simp) ?_
   refine ⟨γ, ?_, ?_⟩
   ·
    simp only [Act.put, List.setIfInBounds_toArray, List.set_cons_zero, List.set_cons_succ]; rfl
   ·
    exact hI
  case s2 =>
   refine rg_step rfl ?_
   rintro l a W ⟨γ, rfl, hI⟩ hl hd
   have d1 := hd 1 (by decide)
   clear hd
   have x0 := blk_cell hI.1.h0 0
   simp at x0
   refine rg_val (v := .string r.f0) (w' := W) rfl (by go_simp) ?_
   refine ⟨γ, ?_, ?_⟩
   ·
    simp only [Act.put, List.setIfInBounds_toArray, List.set_cons_zero, List.set_cons_succ]; rfl
   ·
    exact hI
  case s3 =>
   refine rg_step rfl ?_
   rintro l a W ⟨γ, rfl, hI⟩ hl hd
   have d2 := hd 2 (by decide)
   clear hd
   refine rg_val (v := .int .i64 (r.f0.size : Int)) (w' := W) rfl (by go_simp) ?_
   refine ⟨γ, ?_, ?_⟩
   ·
    simp only [Act.put, List.setIfInBounds_toArray, List.set_cons_zero, List.set_cons_succ]; rfl
   ·
    exact hI
  case s4 =>
   refine rg_step rfl ?_
   rintro l a W ⟨γ, rfl, hI⟩ hl hd
   clear hd
   refine rg_val (v := .pointer (some ⟨w.heap.size, 0, none⟩)) (w' := W) rfl (by go_simp) ?_
   refine ⟨γ, ?_, ?_⟩
   ·
    simp only [Act.put, List.setIfInBounds_toArray, List.set_cons_zero, List.set_cons_succ]; rfl
   ·
    exact hI
  case s5 =>
   refine rg_step rfl ?_
   rintro l a W ⟨γ, rfl, hI⟩ hl hd
   have d4 := hd 4 (by decide)
   clear hd
   refine rg_val (v := .pointer (some ⟨w.heap.size, 0, none⟩)) (w' := W) rfl (by go_simp) ?_
   refine ⟨γ, ?_, ?_⟩
   ·
    simp only [Act.put, List.setIfInBounds_toArray, List.set_cons_zero, List.set_cons_succ]; rfl
   ·
    exact hI
  case s6 =>
   refine rg_step rfl ?_
   rintro l a W ⟨γ, rfl, hI⟩ hl hd
   have d5 := hd 5 (by decide)
   clear hd
   have x0 := blk_cell hI.1.h0 0
   simp at x0
   refine rg_val (v := .string r.f0) (w' := W) rfl (by go_simp) ?_
   refine ⟨γ, ?_, ?_⟩
   ·
    simp only [Act.put, List.setIfInBounds_toArray, List.set_cons_zero, List.set_cons_succ]; rfl
   ·
    exact hI
  case s7 =>
   refine rg_step rfl ?_
   rintro l a W ⟨γ, rfl, hI⟩ hl hd
   have d6 := hd 6 (by decide)
   clear hd
   refine rg_val (v := .int .i64 (r.f0.size : Int)) (w' := W) rfl (by go_simp) ?_
   refine ⟨γ, ?_, ?_⟩
   ·
    simp only [Act.put, List.setIfInBounds_toArray, List.set_cons_zero, List.set_cons_succ]; rfl
   ·
    exact hI
  case s8 =>
   refine rg_step rfl ?_
   rintro l a W ⟨γ, rfl, hI⟩ hl hd
   clear hd
   refine rg_val (v := .pointer (some ⟨w.heap.size, 4, none⟩)) (w' := W) rfl (by go_simp) ?_
   refine ⟨γ, ?_, ?_⟩
   ·
    simp only [Act.put, List.setIfInBounds_toArray, List.set_cons_zero, List.set_cons_succ]; rfl
   ·
    exact hI
  case s9 =>
   refine rg_step rfl ?_
   rintro l a W ⟨γ, rfl, hI⟩ hl hd
   have d8 := hd 8 (by decide)
   clear hd
   refine rg_val (v := .pointer (some ⟨w.heap.size, 4, none⟩)) (w' := W) rfl (by go_simp) ?_
   refine ⟨γ, ?_, ?_⟩
   ·
    simp only [Act.put, List.setIfInBounds_toArray, List.set_cons_zero, List.set_cons_succ]; rfl
   ·
    exact hI
  case s10 =>
   refine rg_step rfl ?_
   rintro l a W ⟨γ, rfl, hI⟩ hl hd
   have d9 := hd 9 (by decide)
   clear hd
   have x4 := blk_cell hI.1.h0 4
   have x5 := blk_cell hI.1.h0 5
   have x6 := blk_cell hI.1.h0 6
   have x7 := blk_cell hI.1.h0 7
   have x8 := blk_cell hI.1.h0 8
   simp at x4 x5 x6 x7 x8
   refine rg_val (v := .agg #[.bool e.f0.f0, .string e.f0.f1, .string e.f0.f2, .int .u64 e.f0.f3.f0, .int .u64 e.f0.f3.f1]) (w' := W) rfl (by go_simp) ?_
   refine ⟨γ, ?_, ?_⟩
   ·
    simp only [Act.put, List.setIfInBounds_toArray, List.set_cons_zero, List.set_cons_succ]; rfl
   ·
    exact hI
  case s11 =>
   refine rg_step rfl ?_
   rintro l a W ⟨γ, rfl, hI⟩ hl hd
   have d7 := hd 7 (by decide)
   have d10 := hd 10 (by decide)
   clear hd
   refine rg_call rfl (by go_simp; exact ⟨rfl, rfl⟩) ?_
   refine (tag_LeafNode.calls kl _ _ _ _ _ _ _ _ _ _ (HK.out.below hI.1.hB) HL.out).mono ?_
   rintro x W' ⟨rfl, hb⟩
   refine ⟨_, rfl, γ, ?_, ?_⟩
   ·
    simp only [Act.put, List.setIfInBounds_toArray, List.set_cons_zero, List.set_cons_succ]; rfl
   ·
    exact ⟨hI.1.below hb, hI.2.1, fun h => ⟨(hI.2.2 h).1, blk_below (hI.2.2 h).2 hb⟩⟩
  case s12 =>
   refine rg_step rfl ?_
   rintro l a W ⟨γ, rfl, hI⟩ hl hd
   clear hd
   refine rg_val (v := .pointer (some ⟨w.heap.size, 4, none⟩)) (w' := W) rfl (by go_simp) ?_
   refine ⟨γ, ?_, ?_⟩
   ·
    simp only [Act.put, List.setIfInBounds_toArray, List.set_cons_zero, List.set_cons_succ]; rfl
   ·
    exact hI
  case s13 =>
   refine rg_step rfl ?_
   rintro l a W ⟨γ, rfl, hI⟩ hl hd
   have d12 := hd 12 (by decide)
   clear hd
   refine rg_val (v := .pointer (some ⟨w.heap.size, 9, none⟩)) (w' := W) rfl (by go_simp) ?_
   refine ⟨γ, ?_, ?_⟩
   ·
    simp only [Act.put, List.setIfInBounds_toArray, List.set_cons_zero, List.set_cons_succ]; rfl
   ·
    exact hI
  case s14 =>
   refine rg_step rfl ?_
   rintro l a W ⟨γ, rfl, hI⟩ hl hd
   have d13 := hd 13 (by decide)
   clear hd
   refine rg_val (v := .pointer (some ⟨w.heap.size, 9, none⟩)) (w' := W) rfl (by go_simp) ?_
   refine ⟨γ, ?_, ?_⟩
   ·
    simp only [Act.put, List.setIfInBounds_toArray, List.set_cons_zero, List.set_cons_succ]; rfl
   ·
    exact hI
  case s15 =>
   refine rg_step rfl ?_
   rintro l a W ⟨γ, rfl, hI⟩ hl hd
   have d14 := hd 14 (by decide)
   clear hd
   have x9 := blk_cell hI.1.h0 9
   simp at x9
   refine rg_val (v := .int .u64 e.f1.f0) (w' := W) rfl (by go_simp) ?_
   refine ⟨γ, ?_, ?_⟩
   ·
    simp only [Act.put, List.setIfInBounds_toArray, List.set_cons_zero, List.set_cons_succ]; rfl
   ·
    exact hI
  case s16 =>
   refine rg_step rfl ?_
   rintro l a W ⟨γ, rfl, hI⟩ hl hd
   clear hd
   refine rg_val (v := .pointer (some ⟨w.heap.size, 4, none⟩)) (w' := W) rfl (by go_simp) ?_
   refine ⟨γ, ?_, ?_⟩
   ·
    simp only [Act.put, List.setIfInBounds_toArray, List.set_cons_zero, List.set_cons_succ]; rfl
   ·
    exact hI
  case s17 =>
   refine rg_step rfl ?_
   rintro l a W ⟨γ, rfl, hI⟩ hl hd
   have d16 := hd 16 (by decide)
   clear hd
   refine rg_val (v := .pointer (some ⟨w.heap.size, 9, none⟩)) (w' := W) rfl (by go_simp) ?_
   refine ⟨γ, ?_, ?_⟩
   ·
    simp only [Act.put, List.setIfInBounds_toArray, List.set_cons_zero, List.set_cons_succ]; rfl
   ·
    exact hI
  case s18 =>
   refine rg_step rfl ?_
   rintro l a W ⟨γ, rfl, hI⟩ hl hd
   have d17 := hd 17 (by decide)
   clear hd
   refine rg_val (v := .pointer (some ⟨w.heap.size, 10, none⟩)) (w' := W) rfl (by go_simp) ?_
   refine ⟨γ, ?_, ?_⟩
   ·
    simp only [Act.put, List.setIfInBounds_toArray, List.set_cons_zero, List.set_cons_succ]; rfl
   ·
    exact hI
  case s19 =>
   refine rg_step rfl ?_
   rintro l a W ⟨γ, rfl, hI⟩ hl hd
   have d18 := hd 18 (by decide)
   clear hd
   have x10 := blk_cell hI.1.h0 10
   simp at x10
   refine rg_val (v := .slice A e.f1.f1.length c) (w' := W) rfl (by go_simp) ?_
   refine ⟨γ, ?_, ?_⟩
   ·
    simp only [Act.put, List.setIfInBounds_toArray, List.set_cons_zero, List.set_cons_succ]; rfl
   ·
    exact hI
  case s20 =>
   refine rg_step rfl ?_
   rintro l a W ⟨γ, rfl, hI⟩ hl hd
   have d3 := hd 3 (by decide)
   have d11 := hd 11 (by decide)
   have d15 := hd 15 (by decide)
   have d19 := hd 19 (by decide)
   clear hd
   refine rg_call rfl (by go_simp; exact ⟨rfl, rfl⟩) ?_
   refine (node_Climb.calls _ _ _ _ _ A c e.f1.f1 _ _ _ _ _ ((LaidT.one HK.out).below hI.1.hB) (Kd.C_below HR.out hI.1.hB) HC.out HCl.out).mono ?_
   rintro x W' ⟨rfl, hb⟩
   refine ⟨_, rfl, γ, ?_, ?_⟩
   ·
    simp only [Act.put, List.setIfInBounds_toArray, List.set_cons_zero, List.set_cons_succ]; rfl
   ·
    exact ⟨hI.1.below hb, hI.2.1, fun h => ⟨(hI.2.2 h).1, blk_below (hI.2.2 h).2 hb⟩⟩
  case s21 =>
   refine rg_step rfl ?_
   rintro l a W ⟨γ, rfl, hI⟩ hl hd
   have d20 := hd 20 (by decide)
   clear hd
   refine rg_val (v := .tuple #[.agg #[.string c1, .int .u64 c2, .int .u64 c3], .int .i64 c4]) (w' := W) rfl (by go_simp) ?_
   refine ⟨γ, ?_, ?_⟩
   ·
    simp only [Act.put, List.setIfInBounds_toArray, List.set_cons_zero, List.set_cons_succ]; rfl
   ·
    exact hI
  case s22 =>
   refine rg_step rfl ?_
   rintro l a W ⟨γ, rfl, hI⟩ hl hd
   have d21 := hd 21 (by decide)
   clear hd
   refine rg_val (v := .agg #[.string c1, .int .u64 c2, .int .u64 c3]) (w' := W) rfl (by go_simp) ?_
   refine ⟨γ, ?_, ?_⟩
   ·
    simp only [Act.put, List.setIfInBounds_toArray, List.set_cons_zero, List.set_cons_succ]; rfl
   ·
    exact hI
  case s23 =>
   refine rg_step rfl ?_
   rintro l a W ⟨γ, rfl, hI⟩ hl hd
   have d21 := hd 21 (by decide)
   clear hd
   refine rg_val (v := .int .i64 c4) (w' := W) rfl (by go_simp) ?_
   refine ⟨γ, ?_, ?_⟩
   ·
    simp only [Act.put, List.setIfInBounds_toArray, List.set_cons_zero, List.set_cons_succ]; rfl
   ·
    exact hI
  case s24 =>
   refine rg_step rfl ?_
   rintro l a W ⟨γ, rfl, hI⟩ hl hd
   clear hd
   refine rg_val (v := .pointer (some ⟨W.heap.size, 0, none⟩)) (w' := W.alloc (.cells #[.string ⟨#[]⟩, .int .u64 0, .int .u64 0] 67)) rfl (by go_simp) ?_
   refine ⟨W.heap.size, ?_, ?_⟩
   ·
    simp only [Act.put, List.setIfInBounds_toArray, List.set_cons_zero, List.set_cons_succ]; rfl
   ·
    exact ⟨hI.1.below (below_alloc (Below.refl _ _) _), fun _ => rfl, fun _ => ⟨blk_lt hI.1.h0, by rw [if_neg (show ¬ upd l 24 25 = true from fun h => by have h : l 25 = true := h; rw [hI.2.1 h] at hl; cases hl)]; exact blk_new W _⟩⟩
  case s25 =>
   refine rg_step rfl ?_
   rintro l a W ⟨γ, rfl, hI⟩ hl hd
   have d24 := hd 24 (by decide)
   have d22 := hd 22 (by decide)
   clear hd
   have hg := hI.2.2 d24
   rw [if_neg (by rw [hl]; decide)] at hg
   have y0 := blk_cell hg.2 0
   have y1 := blk_cell hg.2 1
   have y2 := blk_cell hg.2 2
   have yf := fun i => blk_frozen hg.2 i
   simp at y0 y1 y2
   refine rg_skip rfl (by go_simp; rfl) ?_
   refine ⟨γ, ?_, ?_⟩
   ·
    simp only [Act.put, List.setIfInBounds_toArray, List.set_cons_zero, List.set_cons_succ]; rfl
   ·
    exact ⟨hI.1.put3 hg.1 _ _ _, fun _ => d24, fun _ => ⟨hg.1, put3 (z := ⟨⟨#[]⟩, ⟨0, 0⟩⟩) hg.2 ⟨c1, ⟨c2, c3⟩⟩⟩⟩
  case s26 =>
   refine rg_step rfl ?_
   rintro l a W ⟨γ, rfl, hI⟩ hl hd
   have d23 := hd 23 (by decide)
   clear hd
   refine rg_val (v := .int .i64 c4) (w' := W) rfl (by go_simp) ?_
   refine ⟨γ, ?_, ?_⟩
   ·
    simp only [Act.put, List.setIfInBounds_toArray, List.set_cons_zero, List.set_cons_succ]; rfl
   ·
    exact hI
 case hend =>
  rintro l a W ⟨γ, rfl, hI⟩ hall
  have e0 := hall 0 (by decide)
  have e1 := hall 1 (by decide)
  have e2 := hall 2 (by decide)
  have e3 := hall 3 (by decide)
  have e4 := hall 4 (by decide)
  have e5 := hall 5 (by decide)
  have e6 := hall 6 (by decide)
  have e7 := hall 7 (by decide)
  have e8 := hall 8 (by decide)
  have e9 := hall 9 (by decide)
  have e10 := hall 10 (by decide)
  have e11 := hall 11 (by decide)
  have e12 := hall 12 (by decide)
  have e13 := hall 13 (by decide)
  have e14 := hall 14 (by decide)
  have e15 := hall 15 (by decide)
  have e16 := hall 16 (by decide)
  have e17 := hall 17 (by decide)
  have e18 := hall 18 (by decide)
  have e19 := hall 19 (by decide)
  have e20 := hall 20 (by decide)
  have e21 := hall 21 (by decide)
  have e22 := hall 22 (by decide)
  have e23 := hall 23 (by decide)
  have e24 := hall 24 (by decide)
  have e25 := hall 25 (by decide)
  have e26 := hall 26 (by decide)
  clear hall
  have hn := hI.2.2 e24
  rw [if_pos e25] at hn
  simp only [e0, e1, e2, e3, e4, e5, e6, e7, e8, e9, e10, e11, e12, e13, e14, e15, e16, e17, e18, e19, e20, e21, e22, e23, e24, e25, e26, sel_true]
  clear e0 e1 e2 e3 e4 e5 e6 e7 e8 e9 e10 e11 e12 e13 e14 e15 e16 e17 e18 e19 e20 e21 e22 e23 e24 e25 e26
  have HN := aM' hn
  have HI := aM' hI.1
  have z0 : W.cell? ⟨γ, 0, none⟩ = some (.string c1) := blk_cell hn.2 0
  have z1 : W.cell? ⟨γ, 1, none⟩ = some (.int .u64 c2) := blk_cell hn.2 1
  have z2 : W.cell? ⟨γ, 2, none⟩ = some (.int .u64 c3) := blk_cell hn.2 2
  have x0 : W.cell? ⟨w.heap.size, 0, none⟩ = some (.string r.f0) := blk_cell hI.1.h0 0
  have x1 : W.cell? ⟨w.heap.size, 1, none⟩ = some (.int .u64 r.f1.f0) := blk_cell hI.1.h0 1
  have x2 : W.cell? ⟨w.heap.size, 2, none⟩ = some (.int .u64 r.f1.f1) := blk_cell hI.1.h0 2
  clear hn hI
  have HRS := HRES
  clear HRES
  by_cases h4 : c4 = 0
  ·
   subst h4
   go_wp2
   all_goals
    go_ret
    exact ⟨congrArg (fun z => Ending.returned (.int .i64 z)) (Eq.trans (by simp [*]) HRS.out), HI.out.hB⟩
  ·
   have b1 : (c4 != 0) = true := by simp [h4]
   go_wp2
   go_ret
   exact ⟨congrArg (fun z => Ending.returned (.int .i64 z)) (Eq.trans (by rw [if_neg h4]) HRS.out), HI.out.hB⟩
end Go.Proofs.YtlmmpncdemblbaaGreatDoor.P
namespace Go.Proofs.YtlmmpncdemblbaaGreatDoor.P
open Go.RowKit Go.Proofs.YtlmmpncdemblbaaGreatDoorW.PrintWords Go.Proofs.YtlmmpncdemblbaaGreatDoorW.PrintLast Go.Proofs.YtlmmpncdemblbaaGreatDoorW.PrintMore
set_option linter.unusedVariables false
set_option linter.unusedSimpArgs false
set_option linter.unnecessarySimpa false
attribute [local go_sem] sel_true
abbrev entA (e : SEntry) (A : Option Addr) (c : Nat) : Array Value := #[.bool e.f0.f0, .string e.f0.f1, .string e.f0.f2, .int .u64 e.f0.f3.f0, .int .u64 e.f0.f3.f1, .int .u64 e.f1.f0, .slice A e.f1.f1.length c]
abbrev rootA (r : SRoot) : Array Value := #[.string r.f0, .int .u64 r.f1.f0, .int .u64 r.f1.f1, .int .i64 r.f2]
structure UpS (w W : World) (e : SEntry) (A : Option Addr) (c : Nat) (r : SRoot) : Prop where
 hB : Below w.heap.size w W
 h0 : W.heap[w.heap.size]? = some (.cells (entA e A c) 39 (0, 0))
 h1 : W.heap[w.heap.size + 1]? = some (.cells (rootA r) 26 (0, 0))
theorem UpS.lt {w W : World} {e : SEntry} {A : Option Addr} {c : Nat} {r : SRoot} (h : UpS w W e A c r) : w.heap.size + 1 < W.heap.size := blk_lt h.h1
theorem UpS.below {w W W' : World} {e : SEntry} {A : Option Addr} {c : Nat} {r : SRoot} (h : UpS w W e A c r) (hb : Below W.heap.size W W') : UpS w W' e A c r := ⟨h.hB.trans (hb.mono h.hB.size), blk_below h.h0 hb, blk_below h.h1 hb⟩
theorem UpS.put3 {w W : World} {e : SEntry} {A : Option Addr} {c : Nat} {r : SRoot} (h : UpS w W e A c r) {g : Nat} (hg : w.heap.size + 1 < g) (x y z : Value) : UpS w (((W.setCell ⟨g, 0, none⟩ x).setCell ⟨g, 1, none⟩ y).setCell ⟨g, 2, none⟩ z) e A c r :=
 ⟨below_set (below_set (below_set h.hB (by (try dsimp only); omega)) (by (try dsimp only); omega)) (by (try dsimp only); omega), far3 h.h0 (by omega) _ _ _, far3 h.h1 (by omega) _ _ _⟩
theorem UpS.put {w W : World} {e : SEntry} {A : Option Addr} {c : Nat} {r : SRoot} (h : UpS w W e A c r) (x : SRoot) :
  UpS w ((((W.setCell ⟨w.heap.size + 1, 0, none⟩ (.string x.f0)).setCell ⟨w.heap.size + 1, 1, none⟩ (.int .u64 x.f1.f0)).setCell ⟨w.heap.size + 1, 2, none⟩ (.int .u64 x.f1.f1)).setCell ⟨w.heap.size + 1, 3, none⟩ (.int .i64 x.f2)) e A c x := by
 have a1 := blk_put (cs' := rootA ⟨x.f0, r.f1, r.f2⟩) h.h1 0 (.string x.f0) rfl
 have a2 := blk_put (cs' := rootA ⟨x.f0, ⟨x.f1.f0, r.f1.f1⟩, r.f2⟩) a1 1 (.int .u64 x.f1.f0) rfl
 have a3 := blk_put (cs' := rootA ⟨x.f0, x.f1, r.f2⟩) a2 2 (.int .u64 x.f1.f1) rfl
 have a4 := blk_put (cs' := rootA x) a3 3 (.int .i64 x.f2) rfl
 exact ⟨below_set (below_set (below_set (below_set h.hB (by (try dsimp only); omega)) (by (try dsimp only); omega)) (by (try dsimp only); omega)) (by (try dsimp only); omega), blk_far (far3 h.h0 (by omega) _ _ _) (by (try dsimp only); omega) _, a4⟩
theorem root_results {fn : Func} {p u : Nat} (hr : fn.results = #[.cell p 26, .tmp u]) (tmps : Array Value) (W : World) (g : Nat) (r : SRoot) (e : Value) (hp : tmps.getD p undef = .pointer (some ⟨g, 0, none⟩)) (hu : tmps.getD u undef = e) (hg : W.heap[g]? = some (.cells (rootA r) 26 (0, 0))) :
  (results fn tmps).run Tryz.prog W = .ok (.tuple #[.agg (rootA r), e]) W := by
 have hp' : tmps[p]?.getD undef = .pointer (some ⟨g, 0, none⟩) := by simpa using hp
 have hu' : tmps[u]?.getD undef = e := by simpa using hu
 have h1 := run_loadVar_row W g 26 26 (rootA r) (0, 0) _ hg Tryz.underlying26 rfl (by kernel_rfl)
 simp [results, hr, hp', hu', asAddr, h1]
abbrev upR (u : ByteArray × Int × Int × Int × Int) : SRoot := ⟨u.1, ⟨u.2.1, u.2.2.1⟩, u.2.2.2.1⟩
theorem askLeaf_eq (e : SEntry) (he : OkE e) (h : ByteArray) (a b c : Int) : verify_asked_leaf.f h a b c e.f0.f0 e.f0.f1 e.f0.f2 e.f0.f3.f0 e.f0.f3.f1 e.f1.f0 e.f1.f1 = some (if mayLeafI e.f0 = true then 0 else 130) := by
 unfold verify_asked_leaf.f
 rw [tagMayLeaf_eq e.f0 he.id]
 cases mayLeafI e.f0 <;> rfl
end Go.Proofs.YtlmmpncdemblbaaGreatDoor.P
namespace Go.Proofs.YtlmmpncdemblbaaGreatDoor.P
open Go.RowKit Go.Proofs.YtlmmpncdemblbaaGreatDoorW.PrintWords Go.Proofs.YtlmmpncdemblbaaGreatDoorW.PrintLast Go.Proofs.YtlmmpncdemblbaaGreatDoorW.PrintMore
set_option linter.unusedVariables false
set_option linter.unusedSimpArgs false
set_option linter.unnecessarySimpa false
theorem askRoot_ev (r : SRoot) (e : SEntry) : Ev (fun k => verify_asked_root.f k r.f0 r.f1.f0 r.f1.f1 r.f2 e.f0.f0 e.f0.f1 e.f0.f2 e.f0.f3.f0 e.f0.f3.f1 e.f1.f0 e.f1.f1) (mayRI r) := by
 unfold verify_asked_root.f
 exact Ev.bind (verifyMay_ev r) (Ev.now _)
theorem askShape_eq (r : SRoot) (e : SEntry) : verify_asked_shape.f r.f0 r.f1.f0 r.f1.f1 r.f2 e.f0.f0 e.f0.f1 e.f0.f2 e.f0.f3.f0 e.f0.f3.f1 e.f1.f0 e.f1.f1 = some (shapeN (r.f0.size : Int) r.f2 e.f1.f0 e.f1.f1) := by
 unfold verify_asked_shape.f
 rw [proofShape_eq]; rfl
set_option maxRecDepth 100000 in
set_option maxHeartbeats 4000000 in
theorem check.calls (r : SRoot) (e : SEntry) (A : Option Addr) (c : Nat) (w : World) (hK : LaidT w) (hr : Kd.C kNode w A e.f1.f1.length e.f1.f1) (hc : e.f1.f1.length ≤ c) (he : OkE e) :
  Calls Tryz.prog 9 #[.agg (rootA r), .agg (entA e A c)] w fun x w' => x = .returned (.int .i64 (checkI r e)) ∧ Below w.heap.size w w' := by
 have HK := aM' hK
 have HR := aM' hr
 have HC := aM' hc
 have HE := aM' he
 obtain ⟨kr, hkr⟩ := askRoot_ev r e
 have HRo := aM' (hkr kr (Nat.le_refl _))
 have HLe := aM' (askLeaf_eq e he r.f0 r.f1.f0 r.f1.f1 r.f2)
 have HSh := aM' (askShape_eq r e)
 obtain ⟨res, hres⟩ : ∃ res, (if (climbE (r.f0.size : Int) e).2.2.2 = 0 then (if (climbE (r.f0.size : Int) e).1.toList = r.f0.toList ∧ (climbE (r.f0.size : Int) e).2.1 = r.f1.f0 ∧ (climbE (r.f0.size : Int) e).2.2.1 = r.f1.f1 then 0 else 160) else (climbE (r.f0.size : Int) e).2.2.2) = res := ⟨_, rfl⟩
 have HCk := aM' (show checkI r e = if mayRI r = 0 then (if mayLeafI e.f0 = true then (if shapeN (r.f0.size : Int) r.f2 e.f1.f0 e.f1.f1 = 0 then res else shapeN (r.f0.size : Int) r.f2 e.f1.f0 e.f1.f1) else 130) else mayRI r by rw [← hres]; rfl)
 have HRes := aM' hres
 clear hK hr hc he hkr hres
 generalize checkI r e = ck at HCk ⊢
 generalize mayRI r = mr at HRo HCk
 generalize shapeN (r.f0.size : Int) r.f2 e.f1.f0 e.f1.f1 = sh at HSh HCk
 have i0 : ∀ (f0 f1 f2 f3 : Value) (w : World), (Instr.index 56 (.agg #[f0, f1, f2, f3]) (.int .i64 0)).run Tryz.prog w = .ok f0 w := fun _ _ _ _ _ => by kernel_rfl
 have i1 : ∀ (f0 f1 f2 f3 : Value) (w : World), (Instr.index 56 (.agg #[f0, f1, f2, f3]) (.int .i64 1)).run Tryz.prog w = .ok f1 w := fun _ _ _ _ _ => by kernel_rfl
 have i2 : ∀ (f0 f1 f2 f3 : Value) (w : World), (Instr.index 56 (.agg #[f0, f1, f2, f3]) (.int .i64 2)).run Tryz.prog w = .ok f2 w := fun _ _ _ _ _ => by kernel_rfl
 have i3 : ∀ (f0 f1 f2 f3 : Value) (w : World), (Instr.index 56 (.agg #[f0, f1, f2, f3]) (.int .i64 3)).run Tryz.prog w = .ok f3 w := fun _ _ _ _ _ => by kernel_rfl
 go_enter Tryz.func9, Tryz.ntmps9
 go_wp2
 refine wp_loop_rounds 5 ?_
 rw [rounds_succ]
 by_cases h0 : mr = 0
 ·
  have m0 : (mr != 0) = false := by simp [h0]
  go_wp2_with (go_at_call 19; refine (verify_asked_root.calls kr r.f0 r.f1.f0 r.f1.f1 r.f2 e.f0.f0 e.f0.f1 e.f0.f2 e.f0.f3.f0 e.f0.f3.f1 e.f1.f0 A c e.f1.f1 mr _ (Kd.C_below HR.out (by repeat (first | exact Below.refl _ _ | apply below_alloc))) HC.out HRo.out).mono ?_; rintro x w1 ⟨rfl, hb1⟩)
  have HB1 : Aside0 (Below w.heap.size w w1) := ⟨Below.trans (by repeat (first | exact Below.refl _ _ | apply below_alloc)) (hb1.mono (Below.size (by repeat (first | exact Below.refl _ _ | apply below_alloc))))⟩
  clear hb1
  go_wp2
  rw [rounds_succ]
  by_cases h1 : mayLeafI e.f0 = true
  ·
   have m1 : ((if mayLeafI e.f0 = true then (0 : Int) else 130) != 0) = false := by rw [if_pos h1]; rfl
   go_wp2_with (go_at_call 20; refine (verify_asked_leaf.calls r.f0 r.f1.f0 r.f1.f1 r.f2 e.f0.f0 e.f0.f1 e.f0.f2 e.f0.f3.f0 e.f0.f3.f1 e.f1.f0 A c e.f1.f1 _ _ (HK.out.below HB1.out) (Kd.C_below HR.out HB1.out) HC.out HLe.out).mono ?_; rintro x w2 ⟨rfl, hb2⟩)
   have HB2 : Aside0 (Below w.heap.size w w2) := ⟨HB1.out.trans (hb2.mono HB1.out.size)⟩
   clear hb2
   go_wp2
   rw [rounds_succ]
   by_cases h2 : sh = 0
   ·
    have m2 : (sh != 0) = false := by simp [h2]
    go_wp2_with (go_at_call 21; refine (verify_asked_shape.calls r.f0 r.f1.f0 r.f1.f1 r.f2 e.f0.f0 e.f0.f1 e.f0.f2 e.f0.f3.f0 e.f0.f3.f1 e.f1.f0 A c e.f1.f1 _ _ (Kd.C_below HR.out HB2.out) HC.out HSh.out).mono ?_; rintro x w3 ⟨rfl, hb3⟩)
    have HB3 : Aside0 (Below w.heap.size w w3) := ⟨HB2.out.trans (hb3.mono HB2.out.size)⟩
    clear hb3
    go_wp2
    rw [rounds_succ]
    by_cases h3 : res = 0
    ·
     have m3 : (res != 0) = false := by simp [h3]
     go_wp2_with (go_at_call 22; refine (askClimb.calls r e A c _ (HK.out.below HB3.out) (Kd.C_below HR.out HB3.out) HC.out HE.out res HRes.out).mono ?_; rintro x w4 ⟨rfl, hb4⟩)
     have HB4 : Aside0 (Below w.heap.size w w4) := ⟨HB3.out.trans (hb4.mono HB3.out.size)⟩
     clear hb4
     go_wp2
     rw [rounds_succ]
     go_wp2
     go_ret
     exact ⟨by rw [HCk.out, if_pos h0, if_pos h1, if_pos h2, h3]; rfl, HB4.out⟩
    ·
     have m3 : (res != 0) = true := by simp [h3]
     go_wp2_with (go_at_call 22; refine (askClimb.calls r e A c _ (HK.out.below HB3.out) (Kd.C_below HR.out HB3.out) HC.out HE.out res HRes.out).mono ?_; rintro x w4 ⟨rfl, hb4⟩)
     have HB4 : Aside0 (Below w.heap.size w w4) := ⟨HB3.out.trans (hb4.mono HB3.out.size)⟩
     clear hb4
     go_wp2
     go_ret
     exact ⟨by rw [HCk.out, if_pos h0, if_pos h1, if_pos h2]; rfl, HB4.out⟩
   ·
    have m2 : (sh != 0) = true := by simp [h2]
    go_wp2_with (go_at_call 21; refine (verify_asked_shape.calls r.f0 r.f1.f0 r.f1.f1 r.f2 e.f0.f0 e.f0.f1 e.f0.f2 e.f0.f3.f0 e.f0.f3.f1 e.f1.f0 A c e.f1.f1 _ _ (Kd.C_below HR.out HB2.out) HC.out HSh.out).mono ?_; rintro x w3 ⟨rfl, hb3⟩)
    have HB3 : Aside0 (Below w.heap.size w w3) := ⟨HB2.out.trans (hb3.mono HB2.out.size)⟩
    clear hb3
    go_wp2
    go_ret
    exact ⟨by rw [HCk.out, if_pos h0, if_pos h1, if_neg h2]; rfl, HB3.out⟩
  ·
   have m1 : ((if mayLeafI e.f0 = true then (0 : Int) else 130) != 0) = true := by rw [if_neg h1]; rfl
   go_wp2_with (go_at_call 20; refine (verify_asked_leaf.calls r.f0 r.f1.f0 r.f1.f1 r.f2 e.f0.f0 e.f0.f1 e.f0.f2 e.f0.f3.f0 e.f0.f3.f1 e.f1.f0 A c e.f1.f1 _ _ (HK.out.below HB1.out) (Kd.C_below HR.out HB1.out) HC.out HLe.out).mono ?_; rintro x w2 ⟨rfl, hb2⟩)
   have HB2 : Aside0 (Below w.heap.size w w2) := ⟨HB1.out.trans (hb2.mono HB1.out.size)⟩
   clear hb2
   go_wp2
   go_ret
   exact ⟨by rw [HCk.out, if_pos h0, if_neg h1]; rfl, HB2.out⟩
 ·
  have m0 : (mr != 0) = true := by simp [h0]
  go_wp2_with (go_at_call 19; refine (verify_asked_root.calls kr r.f0 r.f1.f0 r.f1.f1 r.f2 e.f0.f0 e.f0.f1 e.f0.f2 e.f0.f3.f0 e.f0.f3.f1 e.f1.f0 A c e.f1.f1 mr _ (Kd.C_below HR.out (by repeat (first | exact Below.refl _ _ | apply below_alloc))) HC.out HRo.out).mono ?_; rintro x w1 ⟨rfl, hb1⟩)
  have HB1 : Aside0 (Below w.heap.size w w1) := ⟨Below.trans (by repeat (first | exact Below.refl _ _ | apply below_alloc)) (hb1.mono (Below.size (by repeat (first | exact Below.refl _ _ | apply below_alloc))))⟩
  clear hb1
  go_wp2
  go_ret
  exact ⟨by rw [HCk.out, if_neg h0]; rfl, HB1.out⟩
def verify_Check.f (a0_0 : ByteArray) (a0_1 a0_2 a0_3 : Int) (a1_0 : Bool) (a1_1 a1_2 : ByteArray) (a1_3 a1_4 a1_5 : Int) (l : List SNode) : Option Int :=
 if (a1_1.size ≤ 1000000 ∧ a1_2.size ≤ 1000000 ∧ l.length ≤ 9223372036854775807) ∧ ((0 ≤ a1_3 ∧ a1_3 < 18446744073709551616) ∧ (0 ≤ a1_4 ∧ a1_4 < 18446744073709551616) ∧ (0 ≤ a1_5 ∧ a1_5 < 18446744073709551616)) ∧ ∀ x ∈ l, (0 ≤ x.f1.f0 ∧ x.f1.f0 < 18446744073709551616) ∧ (0 ≤ x.f1.f1 ∧ x.f1.f1 < 18446744073709551616) then some (checkI ⟨a0_0, ⟨a0_1, a0_2⟩, a0_3⟩ ⟨⟨a1_0, a1_1, a1_2, ⟨a1_3, a1_4⟩⟩, ⟨a1_5, l⟩⟩) else none
theorem verify_Check.calls (a0_0 : ByteArray) (a0_1 a0_2 a0_3 : Int) (a1_0 : Bool) (a1_1 a1_2 : ByteArray) (a1_3 a1_4 a1_5 : Int) (A : Option Addr) (c : Nat) (l : List SNode) (r : Int) (w : World) (hK : LaidT w) (hr : Kd.C kNode w A l.length l) (hc : l.length ≤ c) (h : verify_Check.f a0_0 a0_1 a0_2 a0_3 a1_0 a1_1 a1_2 a1_3 a1_4 a1_5 l = some r) :
  Calls Tryz.prog 9 #[.agg #[.string a0_0, .int .u64 a0_1, .int .u64 a0_2, .int .i64 a0_3], .agg #[.bool a1_0, .string a1_1, .string a1_2, .int .u64 a1_3, .int .u64 a1_4, .int .u64 a1_5, .slice A l.length c]] w fun e w' => e = .returned (.int .i64 r) ∧ Below w.heap.size w w' := by
 unfold verify_Check.f at h
 split at h
 ·
  rename_i hh
  obtain rfl := Option.some.inj h
  exact check.calls ⟨a0_0, ⟨a0_1, a0_2⟩, a0_3⟩ ⟨⟨a1_0, a1_1, a1_2, ⟨a1_3, a1_4⟩⟩, ⟨a1_5, l⟩⟩ A c w hK hr hc ⟨hh.1.1, hh.1.2.1, ⟨hh.2.1.1, hh.2.1.2.1⟩, hh.2.1.2.2, fun x hx => ⟨(hh.2.2 x hx).1, (hh.2.2 x hx).2⟩, hh.1.2.2⟩
 ·
  exact absurd h (by simp)
theorem verifyCheck_eq (r : SRoot) (e : SEntry) (h : OkE e) : verify_Check.f r.f0 r.f1.f0 r.f1.f1 r.f2 e.f0.f0 e.f0.f1 e.f0.f2 e.f0.f3.f0 e.f0.f3.f1 e.f1.f0 e.f1.f1 = some (checkI r e) := by
 unfold verify_Check.f
 rw [if_pos ⟨⟨h.id, h.sa, h.ls⟩, ⟨h.ub.h0, h.ub.h1, h.p⟩, fun x hx => ⟨(h.us x hx).h0, (h.us x hx).h1⟩⟩]
end Go.Proofs.YtlmmpncdemblbaaGreatDoor.P
namespace Go.Proofs.YtlmmpncdemblbaaGreatDoor.P
open Go.RowKit Go.Proofs.YtlmmpncdemblbaaGreatDoorW.PrintWords Go.Proofs.YtlmmpncdemblbaaGreatDoorW.PrintLast Go.Proofs.YtlmmpncdemblbaaGreatDoorW.PrintMore
set_option linter.unusedVariables false
set_option linter.unusedSimpArgs false
set_option linter.unnecessarySimpa false
attribute [local go_sem] sel_true
set_option maxRecDepth 100000 in
set_option maxHeartbeats 4000000 in
theorem refUp.calls (wd : Int) (e : SEntry) (A : Option Addr) (c : Nat) (w : World) (hK : LaidT w) (hr : Kd.C kNode w A e.f1.f1.length e.f1.f1) (hc : e.f1.f1.length ≤ c) (he : OkE e) :
  Calls Tryz.prog 18 #[.int .i64 wd, .agg (entA e A c)] w fun x w' => x = .returned (.tuple #[.agg (rootA (upR (upI wd e))), .int .i64 (upI wd e).2.2.2.2]) ∧ Below w.heap.size w w' := by
 have HK := aM' hK
 have HR := aM' hr
 have HC := aM' hc
 obtain ⟨kl, hkl⟩ := refLeafNode_ev wd e.f0 he.id he.sa he.ub
 have HL := aM' (hkl kl (Nat.le_refl _))
 have HCl := aM' (refClimb_eq wd e he)
 obtain ⟨km, hkm⟩ := refMayLeaf_ev e.f0 he.id
 have HA := aM' (hkm km (Nat.le_refl _))
 obtain ⟨ks, hks⟩ := refShape_ev wd (e.f1.f1.length : Int) e.f1.f0 e.f1.f1 he.p.1 he.ls
 have HSh := aM' (hks ks (Nat.le_refl _))
 have HU := aM' (show upI wd e = if mayLeafI e.f0 = true then (if shapeN wd (e.f1.f1.length : Int) e.f1.f0 e.f1.f1 = 0 then (if (climbE wd e).2.2.2 = 0 then ((climbE wd e).1, (climbE wd e).2.1, (climbE wd e).2.2.1, (e.f1.f1.length : Int), 0) else (⟨#[]⟩, 0, 0, 0, (climbE wd e).2.2.2)) else (⟨#[]⟩, 0, 0, 0, shapeN wd (e.f1.f1.length : Int) e.f1.f0 e.f1.f1)) else (⟨#[]⟩, 0, 0, 0, 130) from rfl)
 have hll : (e.f1.f1.length : Int) ≤ 9223372036854775807 := by have := he.ls; omega
 clear hK hr hc he hkl hkm hks
 generalize upI wd e = up at HU ⊢
 generalize hcl : climbE wd e = cl at HCl HU
 obtain ⟨c1, c2, c3, c4⟩ := cl
 clear hcl
 generalize hln : leafNodeI wd e.f0 = ln at HL HCl
 clear hln
 generalize hsh : shapeN wd (e.f1.f1.length : Int) e.f1.f0 e.f1.f1 = sh at HSh HU
 clear hsh
 dsimp only at HU
 go_enter Tryz.func18, Tryz.ntmps18
 go_wp2_with fail
 have HUS := aM' (show UpS w ((w.alloc (.cells (entA e A c) 39)).alloc (.cells (rootA ⟨⟨#[]⟩, ⟨0, 0⟩, 0⟩) 26)) e A c ⟨⟨#[]⟩, ⟨0, 0⟩, 0⟩ from
  ⟨below_alloc (below_alloc (Below.refl _ _) _) _, blk_alloc (blk_new w _) _, by have := blk_new (w.alloc (.cells (entA e A c) 39)) (.cells (rootA ⟨⟨#[]⟩, ⟨0, 0⟩, 0⟩) 26); rwa [World.size_alloc] at this⟩)
 refine (paymasterref07_MayLeaf.calls km e.f0.f0 e.f0.f1 e.f0.f2 e.f0.f3.f0 e.f0.f3.f1 _ _ HA.out).mono ?_
 rintro x w1 ⟨rfl, hb⟩
 have hU := HUS.out.below hb
 clear hb HUS
 have HUS := aM' hU
 have ce6 : w1.cell? ⟨w.heap.size, 6, none⟩ = some (.slice A e.f1.f1.length c) := blk_cell hU.h0 6
 have ce5 : w1.cell? ⟨w.heap.size, 5, none⟩ = some (.int .u64 e.f1.f0) := blk_cell hU.h0 5
 have cr0 : w1.cell? ⟨w.heap.size + 1, 0, none⟩ = some (.string ⟨#[]⟩) := blk_cell hU.h1 0
 have cr1 : w1.cell? ⟨w.heap.size + 1, 1, none⟩ = some (.int .u64 0) := blk_cell hU.h1 1
 have cr2 : w1.cell? ⟨w.heap.size + 1, 2, none⟩ = some (.int .u64 0) := blk_cell hU.h1 2
 have cr3 : w1.cell? ⟨w.heap.size + 1, 3, none⟩ = some (.int .i64 0) := blk_cell hU.h1 3
 have fr : ∀ i, w1.frozen? ⟨w.heap.size + 1, i, none⟩ = false := fun i => blk_frozen hU.h1 i
 clear hU
 cases hm : mayLeafI e.f0 with
 | false =>
  rw [hm] at HU
  have HUU := aM' (HU.out.trans (if_neg (by decide)))
  clear HU hm
  go_wp2
  rw [HUU.out]
  exact bodyPost_ret (root_results rfl _ _ _ ⟨⟨#[]⟩, ⟨0, 0⟩, 0⟩ _ rfl rfl (HUS.out.put ⟨⟨#[]⟩, ⟨0, 0⟩, 0⟩).h1) rfl ⟨rfl, (HUS.out.put ⟨⟨#[]⟩, ⟨0, 0⟩, 0⟩).hB⟩
 | true =>
  rw [hm] at HU
  have HUU := aM' (HU.out.trans (if_pos rfl))
  clear HU hm
  go_wp2_with fail
  refine (paymasterref16_Shape.calls ks wd (e.f1.f1.length : Int) e.f1.f0 A c e.f1.f1 _ _ (Kd.C_below HR.out HUS.out.hB) HC.out HSh.out).mono ?_
  rintro x w2 ⟨rfl, hb⟩
  have hU := HUS.out.below hb
  clear HUS hb ce6 ce5 cr0 cr1 cr2 cr3 fr
  have HUS := aM' hU
  have cr0 : w2.cell? ⟨w.heap.size + 1, 0, none⟩ = some (.string ⟨#[]⟩) := blk_cell hU.h1 0
  have cr1 : w2.cell? ⟨w.heap.size + 1, 1, none⟩ = some (.int .u64 0) := blk_cell hU.h1 1
  have cr2 : w2.cell? ⟨w.heap.size + 1, 2, none⟩ = some (.int .u64 0) := blk_cell hU.h1 2
  have cr3 : w2.cell? ⟨w.heap.size + 1, 3, none⟩ = some (.int .i64 0) := blk_cell hU.h1 3
  have fr : ∀ i, w2.frozen? ⟨w.heap.size + 1, i, none⟩ = false := fun i => blk_frozen hU.h1 i
  clear hU
  by_cases hs : sh = 0
  ·
   have HU3 := aM' (HUU.out.trans (if_pos hs))
   subst hs
   clear HUU
   go_wp2_with fail
   refine region_inv (fun l a W => ∃ γ : Nat, a = ({ tmps := #[.int .i64 wd, .agg (entA e A c), undef, .pointer (some ⟨w.heap.size, 0, none⟩), .pointer (some ⟨w.heap.size + 1, 0, none⟩), .int .i64 0, .int .i64 (e.f1.f1.length : Int), .int .i64 0, sel (l 15) (.pointer (some ⟨γ, 0, none⟩)) (undef), sel (l 17) (.int .i64 c4) (undef), .pointer (some ⟨w.heap.size, 0, none⟩), .agg #[.bool e.f0.f0, .string e.f0.f1, .string e.f0.f2, .int .u64 e.f0.f3.f0, .int .u64 e.f0.f3.f1], .bool true, .bool false, undef, .pointer (some ⟨w.heap.size, 5, none⟩), .pointer (some ⟨w.heap.size, 6, none⟩), .slice A e.f1.f1.length c, .int .i64 (e.f1.f1.length : Int), .int .i64 wd, .int .i64 (e.f1.f1.length : Int), .pointer (some ⟨w.heap.size, 5, none⟩), .agg #[.int .u64 e.f1.f0, .slice A e.f1.f1.length c], .int .i64 0, .int .i64 0, .bool false, undef, undef, sel (l 12) (.tuple #[.agg #[.string c1, .int .u64 c2, .int .u64 c3], .int .i64 c4]) (undef), sel (l 0) (.int .i64 wd) (undef), sel (l 1) (.int .i64 wd) (undef), sel (l 2) (.pointer (some ⟨w.heap.size, 0, none⟩)) (undef), sel (l 3) (.agg #[.bool e.f0.f0, .string e.f0.f1, .string e.f0.f2, .int .u64 e.f0.f3.f0, .int .u64 e.f0.f3.f1]) (undef), sel (l 4) (.agg #[.string ln.f0, .int .u64 ln.f1.f0, .int .u64 ln.f1.f1]) (undef), sel (l 5) (.pointer (some ⟨w.heap.size, 5, none⟩)) (undef), sel (l 6) (.pointer (some ⟨w.heap.size, 5, none⟩)) (undef), sel (l 7) (.int .u64 e.f1.f0) (undef), sel (l 8) (.pointer (some ⟨w.heap.size, 5, none⟩)) (undef), sel (l 9) (.pointer (some ⟨w.heap.size, 6, none⟩)) (undef), sel (l 10) (.slice A e.f1.f1.length c) (undef), sel (l 11) (.tuple #[.agg #[.string c1, .int .u64 c2, .int .u64 c3], .int .i64 c4]) (undef), sel (l 13) (.agg #[.string c1, .int .u64 c2, .int .u64 c3]) (undef), sel (l 14) (.int .i64 c4) (undef), undef, undef, undef, undef, undef, undef, undef, undef, undef, undef], defers := [] } : Act) ∧ (UpS w W e A c ⟨⟨#[]⟩, ⟨0, 0⟩, 0⟩ ∧ (l 16 = true → l 15 = true) ∧ (l 15 = true → w.heap.size + 1 < γ ∧ W.heap[γ]? = some (.cells (if l 16 = true then #[.string c1, .int .u64 c2, .int .u64 c3] else #[.string ⟨#[]⟩, .int .u64 0, .int .u64 0]) 67 (0, 0))))) 18 rfl rfl (by kernel_rfl) ?h0 ?hend ?hstep
   case h0 => exact ⟨0, rfl, HUS.out.below (below_drew (Below.refl _ _)), (fun h => by cases h), fun h => by cases h⟩
   case hstep =>
    refine rg_cons (rg_cons (rg_cons (rg_cons (rg_cons (rg_cons (rg_cons (rg_cons (rg_cons (rg_cons (rg_cons (rg_cons (rg_cons (rg_cons (rg_cons (rg_cons (rg_cons (rg_cons (rg_nil) ?s0) ?s1) ?s2) ?s3) ?s4) ?s5) ?s6) ?s7) ?s8) ?s9) ?s10) ?s11) ?s12) ?s13) ?s14) ?s15) ?s16) ?s17
    case s0 =>
     refine rg_step rfl ?_
     rintro l a W ⟨γ, rfl, hI⟩ hl hd
     clear hd
     refine rg_val (v := .int .i64 wd) (w' := W) rfl (by go_simp) ?_
     refine ⟨γ, ?_, ?_⟩
     ·
      simp only [Act.put, List.setIfInBounds_toArray, List.set_cons_zero, List.set_cons_succ]; rfl
     ·
      exact hI
    case s1 =>
     refine rg_step rfl ?_
     rintro l a W ⟨γ, rfl, hI⟩ hl hd
     clear hd
     refine rg_val (v := .int .i64 wd) (w' := W) rfl (by go_simp) ?_
     refine ⟨γ, ?_, ?_⟩
     ·
      simp only [Act.put, List.setIfInBounds_toArray, List.set_cons_zero, List.set_cons_succ]; rfl
     ·
      exact hI
    case s2 =>
     refine rg_step rfl ?_
     rintro l a W ⟨γ, rfl, hI⟩ hl hd
     clear hd
     refine rg_val (v := .pointer (some ⟨w.heap.size, 0, none⟩)) (w' := W) rfl (by go_simp) ?_
     refine ⟨γ, ?_, ?_⟩
     ·
      simp only [Act.put, List.setIfInBounds_toArray, List.set_cons_zero, List.set_cons_succ]; rfl
     ·
      exact hI
    case s3 =>
     refine rg_step rfl ?_
     rintro l a W ⟨γ, rfl, hI⟩ hl hd
     have d2 := hd 2 (by decide)
     clear hd
     have x0 := blk_cell (hI.1.h0) 0
     have x1 := blk_cell (hI.1.h0) 1
     have x2 := blk_cell (hI.1.h0) 2
     have x3 := blk_cell (hI.1.h0) 3
     have x4 := blk_cell (hI.1.h0) 4
     simp at x0 x1 x2 x3 x4
     refine rg_val (v := .agg #[.bool e.f0.f0, .string e.f0.f1, .string e.f0.f2, .int .u64 e.f0.f3.f0, .int .u64 e.f0.f3.f1]) (w' := W) rfl (by go_simp) ?_
     refine ⟨γ, ?_, ?_⟩
     ·
      simp only [Act.put, List.setIfInBounds_toArray, List.set_cons_zero, List.set_cons_succ]; rfl
     ·
      exact hI
    case s4 =>
     refine rg_step rfl ?_
     rintro l a W ⟨γ, rfl, hI⟩ hl hd
     have d1 := hd 1 (by decide)
     have d3 := hd 3 (by decide)
     clear hd
     refine rg_call rfl (by go_simp; exact ⟨rfl, rfl⟩) ?_
     refine (paymasterref07_LeafNode.calls kl _ _ _ _ _ _ _ _ _ _ HL.out).mono ?_
     rintro x W' ⟨rfl, hb⟩
     refine ⟨_, rfl, γ, ?_, ?_⟩
     ·
      simp only [Act.put, List.setIfInBounds_toArray, List.set_cons_zero, List.set_cons_succ]; rfl
     ·
      exact ⟨hI.1.below hb, hI.2.1, fun h => ⟨(hI.2.2 h).1, blk_below (hI.2.2 h).2 hb⟩⟩
    case s5 =>
     refine rg_step rfl ?_
     rintro l a W ⟨γ, rfl, hI⟩ hl hd
     clear hd
     refine rg_val (v := .pointer (some ⟨w.heap.size, 5, none⟩)) (w' := W) rfl (by go_simp) ?_
     refine ⟨γ, ?_, ?_⟩
     ·
      simp only [Act.put, List.setIfInBounds_toArray, List.set_cons_zero, List.set_cons_succ]; rfl
     ·
      exact hI
    case s6 =>
     refine rg_step rfl ?_
     rintro l a W ⟨γ, rfl, hI⟩ hl hd
     have d5 := hd 5 (by decide)
     clear hd
     refine rg_val (v := .pointer (some ⟨w.heap.size, 5, none⟩)) (w' := W) rfl (by go_simp) ?_
     refine ⟨γ, ?_, ?_⟩
     ·
      simp only [Act.put, List.setIfInBounds_toArray, List.set_cons_zero, List.set_cons_succ]; rfl
     ·
      exact hI
    case s7 =>
     refine rg_step rfl ?_
     rintro l a W ⟨γ, rfl, hI⟩ hl hd
     have d6 := hd 6 (by decide)
     clear hd
     have x5 := blk_cell (hI.1.h0) 5
     simp at x5
     refine rg_val (v := .int .u64 e.f1.f0) (w' := W) rfl (by go_simp) ?_
     refine ⟨γ, ?_, ?_⟩
     ·
      simp only [Act.put, List.setIfInBounds_toArray, List.set_cons_zero, List.set_cons_succ]; rfl
     ·
      exact hI
    case s8 =>
     refine rg_step rfl ?_
     rintro l a W ⟨γ, rfl, hI⟩ hl hd
     clear hd
     refine rg_val (v := .pointer (some ⟨w.heap.size, 5, none⟩)) (w' := W) rfl (by go_simp) ?_
     refine ⟨γ, ?_, ?_⟩
     ·
      simp only [Act.put, List.setIfInBounds_toArray, List.set_cons_zero, List.set_cons_succ]; rfl
     ·
      exact hI
    case s9 =>
     refine rg_step rfl ?_
     rintro l a W ⟨γ, rfl, hI⟩ hl hd
     have d8 := hd 8 (by decide)
     clear hd
     refine rg_val (v := .pointer (some ⟨w.heap.size, 6, none⟩)) (w' := W) rfl (by go_simp) ?_
     refine ⟨γ, ?_, ?_⟩
     ·
      simp only [Act.put, List.setIfInBounds_toArray, List.set_cons_zero, List.set_cons_succ]; rfl
     ·
      exact hI
    case s10 =>
     refine rg_step rfl ?_
     rintro l a W ⟨γ, rfl, hI⟩ hl hd
     have d9 := hd 9 (by decide)
     clear hd
     have x6 := blk_cell (hI.1.h0) 6
     simp at x6
     refine rg_val (v := .slice A e.f1.f1.length c) (w' := W) rfl (by go_simp) ?_
     refine ⟨γ, ?_, ?_⟩
     ·
      simp only [Act.put, List.setIfInBounds_toArray, List.set_cons_zero, List.set_cons_succ]; rfl
     ·
      exact hI
    case s11 =>
     refine rg_step rfl ?_
     rintro l a W ⟨γ, rfl, hI⟩ hl hd
     have d0 := hd 0 (by decide)
     have d4 := hd 4 (by decide)
     have d7 := hd 7 (by decide)
     have d10 := hd 10 (by decide)
     clear hd
     refine rg_call rfl (by go_simp; exact ⟨rfl, rfl⟩) ?_
     refine (paymasterref14_Climb.calls _ _ _ _ _ A c e.f1.f1 _ _ _ _ _ ((LaidT.one HK.out).below hI.1.hB) (Kd.C_below HR.out hI.1.hB) HC.out HCl.out).mono ?_
     rintro x W' ⟨rfl, hb⟩
     refine ⟨_, rfl, γ, ?_, ?_⟩
     ·
      simp only [Act.put, List.setIfInBounds_toArray, List.set_cons_zero, List.set_cons_succ]; rfl
     ·
      exact ⟨hI.1.below hb, hI.2.1, fun h => ⟨(hI.2.2 h).1, blk_below (hI.2.2 h).2 hb⟩⟩
    case s12 =>
     refine rg_step rfl ?_
     rintro l a W ⟨γ, rfl, hI⟩ hl hd
     have d11 := hd 11 (by decide)
     clear hd
     refine rg_val (v := .tuple #[.agg #[.string c1, .int .u64 c2, .int .u64 c3], .int .i64 c4]) (w' := W) rfl (by go_simp) ?_
     refine ⟨γ, ?_, ?_⟩
     ·
      simp only [Act.put, List.setIfInBounds_toArray, List.set_cons_zero, List.set_cons_succ]; rfl
     ·
      exact hI
    case s13 =>
     refine rg_step rfl ?_
     rintro l a W ⟨γ, rfl, hI⟩ hl hd
     have d12 := hd 12 (by decide)
     clear hd
     refine rg_val (v := .agg #[.string c1, .int .u64 c2, .int .u64 c3]) (w' := W) rfl (by go_simp) ?_
     refine ⟨γ, ?_, ?_⟩
     ·
      simp only [Act.put, List.setIfInBounds_toArray, List.set_cons_zero, List.set_cons_succ]; rfl
     ·
      exact hI
    case s14 =>
     refine rg_step rfl ?_
     rintro l a W ⟨γ, rfl, hI⟩ hl hd
     have d12 := hd 12 (by decide)
     clear hd
     refine rg_val (v := .int .i64 c4) (w' := W) rfl (by go_simp) ?_
     refine ⟨γ, ?_, ?_⟩
     ·
      simp only [Act.put, List.setIfInBounds_toArray, List.set_cons_zero, List.set_cons_succ]; rfl
     ·
      exact hI
    case s15 =>
     refine rg_step rfl ?_
     rintro l a W ⟨γ, rfl, hI⟩ hl hd
     clear hd
     refine rg_val (v := .pointer (some ⟨W.heap.size, 0, none⟩)) (w' := W.alloc (.cells #[.string ⟨#[]⟩, .int .u64 0, .int .u64 0] 67)) rfl (by go_simp) ?_
     refine ⟨W.heap.size, ?_, ?_⟩
     ·
      simp only [Act.put, List.setIfInBounds_toArray, List.set_cons_zero, List.set_cons_succ]; rfl
     ·
      exact ⟨hI.1.below (below_alloc (Below.refl _ _) _), fun _ => rfl, fun _ => ⟨hI.1.lt, by rw [if_neg (show ¬ upd l 15 16 = true from fun h => by have h : l 16 = true := h; rw [hI.2.1 h] at hl; cases hl)]; exact blk_new W _⟩⟩
    case s16 =>
     refine rg_step rfl ?_
     rintro l a W ⟨γ, rfl, hI⟩ hl hd
     have d13 := hd 13 (by decide)
     have d15 := hd 15 (by decide)
     clear hd
     have hg := hI.2.2 d15
     rw [if_neg (by rw [hl]; decide)] at hg
     have y0 := blk_cell hg.2 0
     have y1 := blk_cell hg.2 1
     have y2 := blk_cell hg.2 2
     have yf := fun i => blk_frozen hg.2 i
     simp at y0 y1 y2
     refine rg_skip rfl (by go_simp; rfl) ?_
     refine ⟨γ, ?_, ?_⟩
     ·
      simp only [Act.put, List.setIfInBounds_toArray, List.set_cons_zero, List.set_cons_succ]; rfl
     ·
      exact ⟨hI.1.put3 hg.1 _ _ _, fun _ => d15, fun _ => ⟨hg.1, put3 (z := ⟨⟨#[]⟩, ⟨0, 0⟩⟩) hg.2 ⟨c1, ⟨c2, c3⟩⟩⟩⟩
    case s17 =>
     refine rg_step rfl ?_
     rintro l a W ⟨γ, rfl, hI⟩ hl hd
     have d14 := hd 14 (by decide)
     clear hd
     refine rg_val (v := .int .i64 c4) (w' := W) rfl (by go_simp) ?_
     refine ⟨γ, ?_, ?_⟩
     ·
      simp only [Act.put, List.setIfInBounds_toArray, List.set_cons_zero, List.set_cons_succ]; rfl
     ·
      exact hI
   case hend =>
    rintro l a W ⟨γ, rfl, hI⟩ hall
    have e0 := hall 0 (by decide)
    have e1 := hall 1 (by decide)
    have e2 := hall 2 (by decide)
    have e3 := hall 3 (by decide)
    have e4 := hall 4 (by decide)
    have e5 := hall 5 (by decide)
    have e6 := hall 6 (by decide)
    have e7 := hall 7 (by decide)
    have e8 := hall 8 (by decide)
    have e9 := hall 9 (by decide)
    have e10 := hall 10 (by decide)
    have e11 := hall 11 (by decide)
    have e12 := hall 12 (by decide)
    have e13 := hall 13 (by decide)
    have e14 := hall 14 (by decide)
    have e15 := hall 15 (by decide)
    have e16 := hall 16 (by decide)
    have e17 := hall 17 (by decide)
    clear hall
    have hn := hI.2.2 e15
    rw [if_pos e16] at hn
    simp only [e0, e1, e2, e3, e4, e5, e6, e7, e8, e9, e10, e11, e12, e13, e14, e15, e16, e17, sel_true]
    clear e0 e1 e2 e3 e4 e5 e6 e7 e8 e9 e10 e11 e12 e13 e14 e15 e16 e17
    have hU := hI.1
    have HUS2 := aM' hU
    have z0 : W.cell? ⟨γ, 0, none⟩ = some (.string c1) := blk_cell hn.2 0
    have z1 : W.cell? ⟨γ, 1, none⟩ = some (.int .u64 c2) := blk_cell hn.2 1
    have z2 : W.cell? ⟨γ, 2, none⟩ = some (.int .u64 c3) := blk_cell hn.2 2
    have ce6 : W.cell? ⟨w.heap.size, 6, none⟩ = some (.slice A e.f1.f1.length c) := blk_cell hU.h0 6
    have cr0 : W.cell? ⟨w.heap.size + 1, 0, none⟩ = some (.string ⟨#[]⟩) := blk_cell hU.h1 0
    have cr1 : W.cell? ⟨w.heap.size + 1, 1, none⟩ = some (.int .u64 0) := blk_cell hU.h1 1
    have cr2 : W.cell? ⟨w.heap.size + 1, 2, none⟩ = some (.int .u64 0) := blk_cell hU.h1 2
    have cr3 : W.cell? ⟨w.heap.size + 1, 3, none⟩ = some (.int .i64 0) := blk_cell hU.h1 3
    have fr : ∀ i, W.frozen? ⟨w.heap.size + 1, i, none⟩ = false := fun i => blk_frozen hU.h1 i
    clear hn hI hU HUS
    by_cases h4 : c4 = 0
    ·
     have HU4 := aM' (HU3.out.trans (if_pos h4))
     subst h4
     clear HU3
     go_wp2
     rw [HU4.out]
     exact bodyPost_ret (root_results rfl _ _ _ ⟨c1, ⟨c2, c3⟩, (e.f1.f1.length : Int)⟩ _ rfl rfl (HUS2.out.put ⟨c1, ⟨c2, c3⟩, (e.f1.f1.length : Int)⟩).h1) rfl ⟨rfl, (HUS2.out.put ⟨c1, ⟨c2, c3⟩, (e.f1.f1.length : Int)⟩).hB⟩
    ·
     have HU4 := aM' (HU3.out.trans (if_neg h4))
     have b1 : (c4 != 0) = true := by simp [h4]
     clear HU3 h4
     go_wp2
     rw [HU4.out]
     exact bodyPost_ret (root_results rfl _ _ _ ⟨⟨#[]⟩, ⟨0, 0⟩, 0⟩ _ rfl rfl (HUS2.out.put ⟨⟨#[]⟩, ⟨0, 0⟩, 0⟩).h1) rfl ⟨rfl, (HUS2.out.put ⟨⟨#[]⟩, ⟨0, 0⟩, 0⟩).hB⟩
  ·
   have HU3 := aM' (HUU.out.trans (if_neg hs))
   have b1 : (sh != 0) = true := by simp [hs]
   clear HUU hs
   go_wp2
   rw [HU3.out]
   exact bodyPost_ret (root_results rfl _ _ _ ⟨⟨#[]⟩, ⟨0, 0⟩, 0⟩ _ rfl rfl (HUS.out.put ⟨⟨#[]⟩, ⟨0, 0⟩, 0⟩).h1) rfl ⟨rfl, (HUS.out.put ⟨⟨#[]⟩, ⟨0, 0⟩, 0⟩).hB⟩
end Go.Proofs.YtlmmpncdemblbaaGreatDoor.P
