/- PROVED HERE: the Go function paymasterlaw17.VerifyTells returns true for every input that the given statement speaks of, and each argument reads behind the call as it read before. Conditions: none beyond the given statement's own (the laid table of constants, tied by the card). -/
-- Several texts of this workplace as one.
import Derived.Test.YtlmmpncdemblbaaGreatDoorZVerifyTells4
import Derived.Test.YtlmmpncdemblbaaGreatDoorProg
import Derived.Deep.OwnRows
import Derived.Laws.Rows
import Derived.Test.YtlmmpncdemblbaaGreatDoorRows
import Derived.Test.YtlmmpncdemblbaaGreatDoorCards
import Derived.Test.YtlmmpncdemblbaaGreatDoorTie
namespace Go.Proofs.YtlmmpncdemblbaaGreatDoor.P
open Go.RowKit Go.Proofs.YtlmmpncdemblbaaGreatDoorW.PrintWords Go.Proofs.YtlmmpncdemblbaaGreatDoorW.PrintLast Go.Proofs.YtlmmpncdemblbaaGreatDoorW.PrintMore
attribute [local go_sem] max2_int min2_int max_two min_two max_three min_three max_four min_four-- for this text's walks alone
set_option linter.unusedVariables false
set_option linter.unusedSimpArgs false
attribute [local go_sem high] eqARoot
def verify_All.l0 : Nat → List (SEntry) → List (SEntry) → Int → Int → ByteArray → Int → Int → Int → Option (Int × Int)
 | 0, _, _, _, _, _, _, _, _ => none
 | k + 1, x1, x9, x10, x11, x114000, x114001, x114002, x114003 => if x11 < x10 then (if 0 ≤ x11 then (if x11 < (x9.length : Int) then ((verify_Check.f x114000 x114001 x114002 x114003 ((rd_TEntry x9 x11).f0.f0) ((rd_TEntry x9 x11).f0.f1) ((rd_TEntry x9 x11).f0.f2) ((rd_TEntry x9 x11).f0.f3.f0) ((rd_TEntry x9 x11).f0.f3.f1) ((rd_TEntry x9 x11).f1.f0) ((rd_TEntry x9 x11).f1.f1)).bind fun t116 => (if t116 = 0 then (verify_All.l0 k x1 x9 x10 (wrap64 (x11 + 1)) x114000 x114001 x114002 x114003) else (some (x11, t116)))) else (none)) else (none)) else (some ((x1.length : Int), 0))
def verify_All.f (k : Nat) (a0_0 : ByteArray) (a0_1 : Int) (a0_2 : Int) (a0_3 : Int) (l1 : List (SEntry)) : Option (Int × Int) := verify_All.l0 k l1 l1 (l1.length : Int) 0 a0_0 a0_1 a0_2 a0_3
set_option maxHeartbeats 8000000 in
set_option maxRecDepth 100000 in
theorem verify_All.calls (k : Nat) (a0_0 : ByteArray) (a0_1 : Int) (a0_2 : Int) (a0_3 : Int) (A1 : Option Addr) (c1 : Nat) (l1 : List (SEntry)) (r1 : Int) (r2 : Int) (w : World) (hK : LaidT w) (hr1 : Kd.C kEntry w A1 l1.length l1) (hc1 : l1.length ≤ c1) (h : verify_All.f k a0_0 a0_1 a0_2 a0_3 l1 = some (r1, r2)) :
  Calls Tryz.prog 10 #[.agg #[.string a0_0, .int .u64 a0_1, .int .u64 a0_2, .int .i64 a0_3], .slice A1 l1.length c1] w fun e w' => e = .returned (.tuple #[.int .i64 r1, .int .i64 r2]) ∧ Below w.heap.size w w' := by
 have hu26 := Tryz.underlying26
 have hu39 := Tryz.underlying39
 have HR1 := aM' hr1
 have HC1 := aM' hc1
 clear hr1 hc1
 have HB := aM' (Below.refl w.heap.size w)
 have HLD := aM' hK
 clear hK
 have H : (verify_All.l0 k l1 l1 (l1.length : Int) 0 a0_0 a0_1 a0_2 a0_3) = some (r1, r2) := h
 clear h
 have H' := aM' H
 clear H
 go_enter Tryz.func10, Tryz.ntmps10
 go_wp2_with (first | ((with_reducible refine gate_dst (N := 2) rfl ?_); refine box_event ?hg (N := 2) ?hd (cs := #[.string a0_0, .int .u64 a0_1, .int .u64 a0_2, .int .i64 a0_3]) (t := 26) ?hr ?_; (case hd => rfl); (case hg => rfl); (case hr => first | (go_simp; done) | (go_simp; rfl)); intro gb113 hg w3 hbox hb; have n0_ := aM' (below_step (by repeat (first | (with_reducible first | exact HB.out | apply below_alloc | apply pw_below_drewN | apply below_drew1) | exact HB.out)) hb); have n1_ := aM' (hbox); have n2_ := aM' ((by rw [hg]; exact (below_size (by repeat (first | (with_reducible first | exact HB.out | apply below_alloc | apply pw_below_drewN | apply below_drew1) | exact HB.out))) : w.heap.size ≤ gb113)); have n3_ := aM' ((by rw [hg]; exact (below_size (by repeat (first | (with_reducible first | exact HB.out | apply below_alloc | apply pw_below_drewN | apply below_drew1) | exact HB.out))) : w.heap.size ≤ gb113)); clear HB; have HB := n0_; have BK113 := n1_; have GW113 := n2_; have GE113 := n3_; clear n0_ n1_ n2_ n3_; clear hb hbox hg))
 go_loopg [11] k (fun kq v11 w' => ∃ (x11_1 : Int), v11 = .int .i64 x11_1 ∧ Aside0 (verify_All.l0 kq l1 l1 (l1.length : Int) x11_1 a0_0 a0_1 a0_2 a0_3 = some (r1, r2)) ∧ Aside0 (kq ≤ k) ∧ Aside0 (w'.heap[gb113]? = some (.cells #[.string a0_0, .int .u64 a0_1, .int .u64 a0_2, .int .i64 a0_3] 26 (0, 0))) ∧ Aside0 (Below w.heap.size w w'))
 case atStart => exact ⟨(0), (by first | rfl | (simp; done) | (simp [*]; done)), H', ⟨Nat.le_refl _⟩, ⟨by (with_reducible repeat (first | refine blk_drewN ?_ _ | refine blk_drew ?_ | refine blk_alloc ?_ _)); exact BK113.out⟩, ⟨by repeat (first | (with_reducible first | exact HB.out | apply below_alloc | apply pw_below_drewN | apply below_drew1 | refine below_set ?_ GE113.out) | exact HB.out)⟩⟩
 case round =>
  clear H'
  try clear c1
  try clear p2
  obtain ⟨x11_1, rfl, HA, HK1, BK113, HB⟩ := hrel
  cases gk with
  | zero => exact absurd HA.out (by simp [verify_All.l0])
  | succ k1 =>
   have H := HA.out
   clear HA
   simp only [verify_All.l0] at H
   by_cases c4 : x11_1 < (l1.length : Int)
   ·
    rw [if_pos c4] at H
    have c4b0 : decide (x11_1 < (l1.length : Int)) = true := decide_eq_true c4
    clear c4
    by_cases c5 : 0 ≤ x11_1
    ·
     rw [if_pos c5] at H
     have c5b0 : decide (0 ≤ x11_1) = true := decide_eq_true c5
     clear c5
     by_cases c6 : x11_1 < (l1.length : Int)
     ·
      rw [if_pos c6] at H
      have c6b0 : decide (x11_1 < (l1.length : Int)) = true := decide_eq_true c6
      clear c6
      replace H := Option.bind_eq_some_iff.mp H
      obtain ⟨t116, A70, H⟩ := H
      replace H : (if t116 = 0 then (verify_All.l0 k1 l1 l1 (l1.length : Int) (wrap64 (x11_1 + 1)) a0_0 a0_1 a0_2 a0_3) else (some (x11_1, t116))) = some (r1, r2) := H
      have A7 := aM' A70
      clear A70
      by_cases c8 : t116 = 0
      ·
       rw [if_pos c8] at H
       have c8b0 : (t116 == 0) = true := beq_iff_eq.mpr c8
       have c8b1 : (t116 != 0) = false := bne_eq_false_iff_eq.mpr c8
       clear c8
       have H' := aM' H
       clear H
       have p114 : 0 ≤ (x11_1 : Int) := of_decide_eq_true (by first | (with_reducible assumption) | assumption)
       have q114 : x11_1 < (l1.length : Int) := of_decide_eq_true (by first | (with_reducible assumption) | assumption)
       obtain ⟨ad114, A114_6, c114_6, e114, hx114_0, hx114_1, hx114_2, hx114_3, hx114_4, hx114_5, hx114_6, hl114_6, hi114_6⟩ := at_TEntry HR1.out x11_1 p114 q114
       cases e114
       replace hx114_0 := (HB.out.cell (bL' w _ hx114_0)).trans hx114_0
       replace hx114_1 := (HB.out.cell (bL' w _ hx114_1)).trans hx114_1
       replace hx114_2 := (HB.out.cell (bL' w _ hx114_2)).trans hx114_2
       replace hx114_3 := (HB.out.cell (bL' w _ hx114_3)).trans hx114_3
       replace hx114_4 := (HB.out.cell (bL' w _ hx114_4)).trans hx114_4
       replace hx114_5 := (HB.out.cell (bL' w _ hx114_5)).trans hx114_5
       replace hx114_6 := (HB.out.cell (bL' w _ hx114_6)).trans hx114_6
       have HR114_6 := aM' hi114_6
       have HC114_6 := aM' hl114_6
       clear hi114_6 hl114_6
       replace p114 := eq_true p114
       replace q114 := eq_true q114
       go_wp2_with (first | ((with_reducible refine gate_dst (N := 7) rfl ?_); refine box_event ?hg (N := 7) ?hd (cs := #[.bool false, .string (⟨#[]⟩ : ByteArray), .string (⟨#[]⟩ : ByteArray), .int .u64 0, .int .u64 0, .int .u64 0, .slice none 0 0]) (t := 39) ?hr ?_; (case hd => rfl); (case hg => rfl); (case hr => first | (go_simp; done) | (go_simp; rfl)); intro gb115 hg w9 hbox hb; have n0_ := aM' (blk_below (g := gb113) (o := .cells #[.string a0_0, .int .u64 a0_1, .int .u64 a0_2, .int .i64 a0_3] 26 (0, 0)) (by (with_reducible repeat (first | refine blk_drewN ?_ _ | refine blk_drew ?_ | refine blk_alloc ?_ _)); exact BK113.out) hb); have n1_ := aM' (below_step (by repeat (first | (with_reducible first | exact HB.out | apply below_alloc | apply pw_below_drewN | apply below_drew1 | refine below_set ?_ GE113.out) | exact HB.out)) hb); have n2_ := aM' (hbox); have n3_ := aM' ((by rw [hg]; exact (below_size (by repeat (first | (with_reducible first | exact HB.out | apply below_alloc | apply pw_below_drewN | apply below_drew1 | refine below_set ?_ GE113.out) | exact HB.out))) : w.heap.size ≤ gb115)); have n4_ := aM' ((by rw [hg]; exact (below_size (by repeat (first | (with_reducible first | exact HB.out | apply below_alloc | apply pw_below_drewN | apply below_drew1 | refine below_set ?_ GE113.out) | exact HB.out))) : w.heap.size ≤ gb115)); have n5_ := aM' ((by rw [hg]; exact Nat.ne_of_lt (blk_lt (g := gb113) (o := .cells #[.string a0_0, .int .u64 a0_1, .int .u64 a0_2, .int .i64 a0_3] 26 (0, 0)) (by (with_reducible repeat (first | refine blk_drewN ?_ _ | refine blk_drew ?_ | refine blk_alloc ?_ _)); exact BK113.out)) : gb113 ≠ gb115)); have n6_ := aM' ((by rw [hg]; exact Nat.ne_of_gt (blk_lt (g := gb113) (o := .cells #[.string a0_0, .int .u64 a0_1, .int .u64 a0_2, .int .i64 a0_3] 26 (0, 0)) (by (with_reducible repeat (first | refine blk_drewN ?_ _ | refine blk_drew ?_ | refine blk_alloc ?_ _)); exact BK113.out)) : gb115 ≠ gb113)); clear BK113; clear HB; have BK113 := n0_; have HB := n1_; have BK115 := n2_; have GW115 := n3_; have GE115 := n4_; have NB113_115 := n5_; have NB115_113 := n6_; clear n0_ n1_ n2_ n3_ n4_ n5_ n6_; clear hb hbox hg; have hnb10 := NB115_113.out; have hnc10 := NB113_115.out; have hcz11_0 : w9.cell? ⟨gb115, 0, none⟩ = some (.bool false) := (blk_cell BK115.out 0).trans rfl; have hcz11_1 : w9.cell? ⟨gb115, 1, none⟩ = some (.string (⟨#[]⟩ : ByteArray)) := (blk_cell BK115.out 1).trans rfl; have hcz11_2 : w9.cell? ⟨gb115, 2, none⟩ = some (.string (⟨#[]⟩ : ByteArray)) := (blk_cell BK115.out 2).trans rfl; have hcz11_3 : w9.cell? ⟨gb115, 3, none⟩ = some (.int .u64 0) := (blk_cell BK115.out 3).trans rfl; have hcz11_4 : w9.cell? ⟨gb115, 4, none⟩ = some (.int .u64 0) := (blk_cell BK115.out 4).trans rfl; have hcz11_5 : w9.cell? ⟨gb115, 5, none⟩ = some (.int .u64 0) := (blk_cell BK115.out 5).trans rfl; have hcz11_6 : w9.cell? ⟨gb115, 6, none⟩ = some (.slice none 0 0) := (blk_cell BK115.out 6).trans rfl; have hfz11_0 := blk_frozen BK115.out 0; have hfz11_1 := blk_frozen BK115.out 1; have hfz11_2 := blk_frozen BK115.out 2; have hfz11_3 := blk_frozen BK115.out 3; have hfz11_4 := blk_frozen BK115.out 4; have hfz11_5 := blk_frozen BK115.out 5; have hfz11_6 := blk_frozen BK115.out 6; have hcz12_0 : w9.cell? ⟨gb113, 0, none⟩ = some (.string a0_0) := (blk_cell BK113.out 0).trans rfl; have hcz12_1 : w9.cell? ⟨gb113, 1, none⟩ = some (.int .u64 a0_1) := (blk_cell BK113.out 1).trans rfl; have hcz12_2 : w9.cell? ⟨gb113, 2, none⟩ = some (.int .u64 a0_2) := (blk_cell BK113.out 2).trans rfl; have hcz12_3 : w9.cell? ⟨gb113, 3, none⟩ = some (.int .i64 a0_3) := (blk_cell BK113.out 3).trans rfl; have hfz12_0 := blk_frozen BK113.out 0; have hfz12_1 := blk_frozen BK113.out 1; have hfz12_2 := blk_frozen BK113.out 2; have hfz12_3 := blk_frozen BK113.out 3) | ((with_reducible refine gate_callee (f := 9) rfl ?_); refine goesL_ (some 18) rfl rfl Tryz.func9 (by kernel_rfl) rfl #[.agg #[.string a0_0, .int .u64 a0_1, .int .u64 a0_2, .int .i64 a0_3], .agg #[.bool ((rd_TEntry l1 x11_1).f0.f0), .string ((rd_TEntry l1 x11_1).f0.f1), .string ((rd_TEntry l1 x11_1).f0.f2), .int .u64 ((rd_TEntry l1 x11_1).f0.f3.f0), .int .u64 ((rd_TEntry l1 x11_1).f0.f3.f1), .int .u64 ((rd_TEntry l1 x11_1).f1.f0), .slice A114_6 ((rd_TEntry l1 x11_1).f1.f1).length c114_6]] rfl (by (try simp only [List.map_toArray, List.map_cons, List.map_nil]); first | done | rfl | (simp only [List.length_drop, List.length_take]; rfl)) ?_; (with_reducible refine (verify_Check.calls a0_0 a0_1 a0_2 a0_3 ((rd_TEntry l1 x11_1).f0.f0) ((rd_TEntry l1 x11_1).f0.f1) ((rd_TEntry l1 x11_1).f0.f2) ((rd_TEntry l1 x11_1).f0.f3.f0) ((rd_TEntry l1 x11_1).f0.f3.f1) ((rd_TEntry l1 x11_1).f1.f0) _ _ ((rd_TEntry l1 x11_1).f1.f1) t116 _ ?side1 ?side2 ?side3 A7.out).mono ?_); (case side1 => exact LaidT.below HLD.out (by repeat (first | (with_reducible first | exact HB.out | apply below_alloc | apply pw_below_drewN | apply below_drew1 | refine below_set ?_ GE113.out | refine below_set ?_ GE115.out) | exact HB.out))); (case side2 => exact Kd.C_below HR114_6.out (by repeat (first | (with_reducible first | exact HB.out | apply below_alloc | apply pw_below_drewN | apply below_drew1 | refine below_set ?_ GE113.out | refine below_set ?_ GE115.out) | exact HB.out))); (case side3 => exact HC114_6.out); rintro e w13 ⟨rfl, hb⟩; refine ⟨_, rfl, ?_⟩; have n0_ := aM' (blk_below (g := gb113) (o := .cells #[.string a0_0, .int .u64 a0_1, .int .u64 a0_2, .int .i64 a0_3] 26 (0, 0)) (by (with_reducible repeat (first | refine blk_drewN ?_ _ | refine blk_drew ?_ | refine blk_alloc ?_ _)); refine blk_far ?_ NB113_115.out _; (with_reducible repeat (first | refine blk_drewN ?_ _ | refine blk_drew ?_ | refine blk_alloc ?_ _)); refine blk_far ?_ NB113_115.out _; (with_reducible repeat (first | refine blk_drewN ?_ _ | refine blk_drew ?_ | refine blk_alloc ?_ _)); refine blk_far ?_ NB113_115.out _; (with_reducible repeat (first | refine blk_drewN ?_ _ | refine blk_drew ?_ | refine blk_alloc ?_ _)); refine blk_far ?_ NB113_115.out _; (with_reducible repeat (first | refine blk_drewN ?_ _ | refine blk_drew ?_ | refine blk_alloc ?_ _)); refine blk_far ?_ NB113_115.out _; (with_reducible repeat (first | refine blk_drewN ?_ _ | refine blk_drew ?_ | refine blk_alloc ?_ _)); refine blk_far ?_ NB113_115.out _; (with_reducible repeat (first | refine blk_drewN ?_ _ | refine blk_drew ?_ | refine blk_alloc ?_ _)); refine blk_far ?_ NB113_115.out _; (with_reducible repeat (first | refine blk_drewN ?_ _ | refine blk_drew ?_ | refine blk_alloc ?_ _)); exact BK113.out) hb); have n1_ := aM' (blk_below (g := gb115) (o := .cells #[.bool ((rd_TEntry l1 x11_1).f0.f0), .string ((rd_TEntry l1 x11_1).f0.f1), .string ((rd_TEntry l1 x11_1).f0.f2), .int .u64 ((rd_TEntry l1 x11_1).f0.f3.f0), .int .u64 ((rd_TEntry l1 x11_1).f0.f3.f1), .int .u64 ((rd_TEntry l1 x11_1).f1.f0), .slice A114_6 ((rd_TEntry l1 x11_1).f1.f1).length c114_6] 39 (0, 0)) (by (with_reducible repeat (first | refine blk_drewN ?_ _ | refine blk_drew ?_ | refine blk_alloc ?_ _)); refine blk_put (cs := #[.bool ((rd_TEntry l1 x11_1).f0.f0), .string ((rd_TEntry l1 x11_1).f0.f1), .string ((rd_TEntry l1 x11_1).f0.f2), .int .u64 ((rd_TEntry l1 x11_1).f0.f3.f0), .int .u64 ((rd_TEntry l1 x11_1).f0.f3.f1), .int .u64 ((rd_TEntry l1 x11_1).f1.f0), .slice none 0 0]) ?_ 6 _ rfl; (with_reducible repeat (first | refine blk_drewN ?_ _ | refine blk_drew ?_ | refine blk_alloc ?_ _)); refine blk_put (cs := #[.bool ((rd_TEntry l1 x11_1).f0.f0), .string ((rd_TEntry l1 x11_1).f0.f1), .string ((rd_TEntry l1 x11_1).f0.f2), .int .u64 ((rd_TEntry l1 x11_1).f0.f3.f0), .int .u64 ((rd_TEntry l1 x11_1).f0.f3.f1), .int .u64 0, .slice none 0 0]) ?_ 5 _ rfl; (with_reducible repeat (first | refine blk_drewN ?_ _ | refine blk_drew ?_ | refine blk_alloc ?_ _)); refine blk_put (cs := #[.bool ((rd_TEntry l1 x11_1).f0.f0), .string ((rd_TEntry l1 x11_1).f0.f1), .string ((rd_TEntry l1 x11_1).f0.f2), .int .u64 ((rd_TEntry l1 x11_1).f0.f3.f0), .int .u64 0, .int .u64 0, .slice none 0 0]) ?_ 4 _ rfl; (with_reducible repeat (first | refine blk_drewN ?_ _ | refine blk_drew ?_ | refine blk_alloc ?_ _)); refine blk_put (cs := #[.bool ((rd_TEntry l1 x11_1).f0.f0), .string ((rd_TEntry l1 x11_1).f0.f1), .string ((rd_TEntry l1 x11_1).f0.f2), .int .u64 0, .int .u64 0, .int .u64 0, .slice none 0 0]) ?_ 3 _ rfl; (with_reducible repeat (first | refine blk_drewN ?_ _ | refine blk_drew ?_ | refine blk_alloc ?_ _)); refine blk_put (cs := #[.bool ((rd_TEntry l1 x11_1).f0.f0), .string ((rd_TEntry l1 x11_1).f0.f1), .string (⟨#[]⟩ : ByteArray), .int .u64 0, .int .u64 0, .int .u64 0, .slice none 0 0]) ?_ 2 _ rfl; (with_reducible repeat (first | refine blk_drewN ?_ _ | refine blk_drew ?_ | refine blk_alloc ?_ _)); refine blk_put (cs := #[.bool ((rd_TEntry l1 x11_1).f0.f0), .string (⟨#[]⟩ : ByteArray), .string (⟨#[]⟩ : ByteArray), .int .u64 0, .int .u64 0, .int .u64 0, .slice none 0 0]) ?_ 1 _ rfl; (with_reducible repeat (first | refine blk_drewN ?_ _ | refine blk_drew ?_ | refine blk_alloc ?_ _)); refine blk_put (cs := #[.bool false, .string (⟨#[]⟩ : ByteArray), .string (⟨#[]⟩ : ByteArray), .int .u64 0, .int .u64 0, .int .u64 0, .slice none 0 0]) ?_ 0 _ rfl; (with_reducible repeat (first | refine blk_drewN ?_ _ | refine blk_drew ?_ | refine blk_alloc ?_ _)); exact BK115.out) hb); have n2_ := aM' (below_step (by repeat (first | (with_reducible first | exact HB.out | apply below_alloc | apply pw_below_drewN | apply below_drew1 | refine below_set ?_ GE113.out | refine below_set ?_ GE115.out) | exact HB.out)) hb); clear BK113; clear BK115; clear HB; have BK113 := n0_; have BK115 := n1_; have HB := n2_; clear n0_ n1_ n2_; (try clear hb); (try clear hb2); (try clear hk); (try clear hi)))
       go_roundg k1
       case measure => have := HK1.out; omega
       case rel => exact ⟨(wrap64 (x11_1 + 1)), (by first | rfl | (simp; done) | (simp [*]; done)), H', ⟨by have := HK1.out; omega⟩, ⟨by (with_reducible repeat (first | refine blk_drewN ?_ _ | refine blk_drew ?_ | refine blk_alloc ?_ _)); exact BK113.out⟩, ⟨by repeat (first | (with_reducible first | exact HB.out | apply below_alloc | apply pw_below_drewN | apply below_drew1 | refine below_set ?_ GE113.out | refine below_set ?_ GE115.out) | exact HB.out)⟩⟩
      ·
       rw [if_neg c8] at H
       have c8b0 : (t116 == 0) = false := beq_eq_false_iff_ne.mpr c8
       have c8b1 : (t116 != 0) = true := bne_iff_ne.mpr c8
       simp only [Option.some.injEq, Prod.mk.injEq] at H
       obtain ⟨rfl, rfl⟩ := H
       have p114 : 0 ≤ (x11_1 : Int) := of_decide_eq_true (by first | (with_reducible assumption) | assumption)
       have q114 : x11_1 < (l1.length : Int) := of_decide_eq_true (by first | (with_reducible assumption) | assumption)
       obtain ⟨ad114, A114_6, c114_6, e114, hx114_0, hx114_1, hx114_2, hx114_3, hx114_4, hx114_5, hx114_6, hl114_6, hi114_6⟩ := at_TEntry HR1.out x11_1 p114 q114
       cases e114
       replace hx114_0 := (HB.out.cell (bL' w _ hx114_0)).trans hx114_0
       replace hx114_1 := (HB.out.cell (bL' w _ hx114_1)).trans hx114_1
       replace hx114_2 := (HB.out.cell (bL' w _ hx114_2)).trans hx114_2
       replace hx114_3 := (HB.out.cell (bL' w _ hx114_3)).trans hx114_3
       replace hx114_4 := (HB.out.cell (bL' w _ hx114_4)).trans hx114_4
       replace hx114_5 := (HB.out.cell (bL' w _ hx114_5)).trans hx114_5
       replace hx114_6 := (HB.out.cell (bL' w _ hx114_6)).trans hx114_6
       have HR114_6 := aM' hi114_6
       have HC114_6 := aM' hl114_6
       clear hi114_6 hl114_6
       replace p114 := eq_true p114
       replace q114 := eq_true q114
       go_wp2_with (first | ((with_reducible refine gate_dst (N := 7) rfl ?_); refine box_event ?hg (N := 7) ?hd (cs := #[.bool false, .string (⟨#[]⟩ : ByteArray), .string (⟨#[]⟩ : ByteArray), .int .u64 0, .int .u64 0, .int .u64 0, .slice none 0 0]) (t := 39) ?hr ?_; (case hd => rfl); (case hg => rfl); (case hr => first | (go_simp; done) | (go_simp; rfl)); intro gb115 hg w14 hbox hb; have n0_ := aM' (blk_below (g := gb113) (o := .cells #[.string a0_0, .int .u64 a0_1, .int .u64 a0_2, .int .i64 a0_3] 26 (0, 0)) (by (with_reducible repeat (first | refine blk_drewN ?_ _ | refine blk_drew ?_ | refine blk_alloc ?_ _)); exact BK113.out) hb); have n1_ := aM' (below_step (by repeat (first | (with_reducible first | exact HB.out | apply below_alloc | apply pw_below_drewN | apply below_drew1 | refine below_set ?_ GE113.out) | exact HB.out)) hb); have n2_ := aM' (hbox); have n3_ := aM' ((by rw [hg]; exact (below_size (by repeat (first | (with_reducible first | exact HB.out | apply below_alloc | apply pw_below_drewN | apply below_drew1 | refine below_set ?_ GE113.out) | exact HB.out))) : w.heap.size ≤ gb115)); have n4_ := aM' ((by rw [hg]; exact (below_size (by repeat (first | (with_reducible first | exact HB.out | apply below_alloc | apply pw_below_drewN | apply below_drew1 | refine below_set ?_ GE113.out) | exact HB.out))) : w.heap.size ≤ gb115)); have n5_ := aM' ((by rw [hg]; exact Nat.ne_of_lt (blk_lt (g := gb113) (o := .cells #[.string a0_0, .int .u64 a0_1, .int .u64 a0_2, .int .i64 a0_3] 26 (0, 0)) (by (with_reducible repeat (first | refine blk_drewN ?_ _ | refine blk_drew ?_ | refine blk_alloc ?_ _)); exact BK113.out)) : gb113 ≠ gb115)); have n6_ := aM' ((by rw [hg]; exact Nat.ne_of_gt (blk_lt (g := gb113) (o := .cells #[.string a0_0, .int .u64 a0_1, .int .u64 a0_2, .int .i64 a0_3] 26 (0, 0)) (by (with_reducible repeat (first | refine blk_drewN ?_ _ | refine blk_drew ?_ | refine blk_alloc ?_ _)); exact BK113.out)) : gb115 ≠ gb113)); clear BK113; clear HB; have BK113 := n0_; have HB := n1_; have BK115 := n2_; have GW115 := n3_; have GE115 := n4_; have NB113_115 := n5_; have NB115_113 := n6_; clear n0_ n1_ n2_ n3_ n4_ n5_ n6_; clear hb hbox hg; have hnb15 := NB115_113.out; have hnc15 := NB113_115.out; have hcz16_0 : w14.cell? ⟨gb115, 0, none⟩ = some (.bool false) := (blk_cell BK115.out 0).trans rfl; have hcz16_1 : w14.cell? ⟨gb115, 1, none⟩ = some (.string (⟨#[]⟩ : ByteArray)) := (blk_cell BK115.out 1).trans rfl; have hcz16_2 : w14.cell? ⟨gb115, 2, none⟩ = some (.string (⟨#[]⟩ : ByteArray)) := (blk_cell BK115.out 2).trans rfl; have hcz16_3 : w14.cell? ⟨gb115, 3, none⟩ = some (.int .u64 0) := (blk_cell BK115.out 3).trans rfl; have hcz16_4 : w14.cell? ⟨gb115, 4, none⟩ = some (.int .u64 0) := (blk_cell BK115.out 4).trans rfl; have hcz16_5 : w14.cell? ⟨gb115, 5, none⟩ = some (.int .u64 0) := (blk_cell BK115.out 5).trans rfl; have hcz16_6 : w14.cell? ⟨gb115, 6, none⟩ = some (.slice none 0 0) := (blk_cell BK115.out 6).trans rfl; have hfz16_0 := blk_frozen BK115.out 0; have hfz16_1 := blk_frozen BK115.out 1; have hfz16_2 := blk_frozen BK115.out 2; have hfz16_3 := blk_frozen BK115.out 3; have hfz16_4 := blk_frozen BK115.out 4; have hfz16_5 := blk_frozen BK115.out 5; have hfz16_6 := blk_frozen BK115.out 6; have hcz17_0 : w14.cell? ⟨gb113, 0, none⟩ = some (.string a0_0) := (blk_cell BK113.out 0).trans rfl; have hcz17_1 : w14.cell? ⟨gb113, 1, none⟩ = some (.int .u64 a0_1) := (blk_cell BK113.out 1).trans rfl; have hcz17_2 : w14.cell? ⟨gb113, 2, none⟩ = some (.int .u64 a0_2) := (blk_cell BK113.out 2).trans rfl; have hcz17_3 : w14.cell? ⟨gb113, 3, none⟩ = some (.int .i64 a0_3) := (blk_cell BK113.out 3).trans rfl; have hfz17_0 := blk_frozen BK113.out 0; have hfz17_1 := blk_frozen BK113.out 1; have hfz17_2 := blk_frozen BK113.out 2; have hfz17_3 := blk_frozen BK113.out 3) | ((with_reducible refine gate_callee (f := 9) rfl ?_); refine goesL_ (some 18) rfl rfl Tryz.func9 (by kernel_rfl) rfl #[.agg #[.string a0_0, .int .u64 a0_1, .int .u64 a0_2, .int .i64 a0_3], .agg #[.bool ((rd_TEntry l1 x11_1).f0.f0), .string ((rd_TEntry l1 x11_1).f0.f1), .string ((rd_TEntry l1 x11_1).f0.f2), .int .u64 ((rd_TEntry l1 x11_1).f0.f3.f0), .int .u64 ((rd_TEntry l1 x11_1).f0.f3.f1), .int .u64 ((rd_TEntry l1 x11_1).f1.f0), .slice A114_6 ((rd_TEntry l1 x11_1).f1.f1).length c114_6]] rfl (by (try simp only [List.map_toArray, List.map_cons, List.map_nil]); first | done | rfl | (simp only [List.length_drop, List.length_take]; rfl)) ?_; (with_reducible refine (verify_Check.calls a0_0 a0_1 a0_2 a0_3 ((rd_TEntry l1 x11_1).f0.f0) ((rd_TEntry l1 x11_1).f0.f1) ((rd_TEntry l1 x11_1).f0.f2) ((rd_TEntry l1 x11_1).f0.f3.f0) ((rd_TEntry l1 x11_1).f0.f3.f1) ((rd_TEntry l1 x11_1).f1.f0) _ _ ((rd_TEntry l1 x11_1).f1.f1) t116 _ ?side1 ?side2 ?side3 A7.out).mono ?_); (case side1 => exact LaidT.below HLD.out (by repeat (first | (with_reducible first | exact HB.out | apply below_alloc | apply pw_below_drewN | apply below_drew1 | refine below_set ?_ GE113.out | refine below_set ?_ GE115.out) | exact HB.out))); (case side2 => exact Kd.C_below HR114_6.out (by repeat (first | (with_reducible first | exact HB.out | apply below_alloc | apply pw_below_drewN | apply below_drew1 | refine below_set ?_ GE113.out | refine below_set ?_ GE115.out) | exact HB.out))); (case side3 => exact HC114_6.out); rintro e w18 ⟨rfl, hb⟩; refine ⟨_, rfl, ?_⟩; have n0_ := aM' (blk_below (g := gb113) (o := .cells #[.string a0_0, .int .u64 a0_1, .int .u64 a0_2, .int .i64 a0_3] 26 (0, 0)) (by (with_reducible repeat (first | refine blk_drewN ?_ _ | refine blk_drew ?_ | refine blk_alloc ?_ _)); refine blk_far ?_ NB113_115.out _; (with_reducible repeat (first | refine blk_drewN ?_ _ | refine blk_drew ?_ | refine blk_alloc ?_ _)); refine blk_far ?_ NB113_115.out _; (with_reducible repeat (first | refine blk_drewN ?_ _ | refine blk_drew ?_ | refine blk_alloc ?_ _)); refine blk_far ?_ NB113_115.out _; (with_reducible repeat (first | refine blk_drewN ?_ _ | refine blk_drew ?_ | refine blk_alloc ?_ _)); refine blk_far ?_ NB113_115.out _; (with_reducible repeat (first | refine blk_drewN ?_ _ | refine blk_drew ?_ | refine blk_alloc ?_ _)); refine blk_far ?_ NB113_115.out _; (with_reducible repeat (first | refine blk_drewN ?_ _ | refine blk_drew ?_ | refine blk_alloc ?_ _)); refine blk_far ?_ NB113_115.out _; (with_reducible repeat (first | refine blk_drewN ?_ _ | refine blk_drew ?_ | refine blk_alloc ?_ _)); refine blk_far ?_ NB113_115.out _; (with_reducible repeat (first | refine blk_drewN ?_ _ | refine blk_drew ?_ | refine blk_alloc ?_ _)); exact BK113.out) hb); have n1_ := aM' (blk_below (g := gb115) (o := .cells #[.bool ((rd_TEntry l1 x11_1).f0.f0), .string ((rd_TEntry l1 x11_1).f0.f1), .string ((rd_TEntry l1 x11_1).f0.f2), .int .u64 ((rd_TEntry l1 x11_1).f0.f3.f0), .int .u64 ((rd_TEntry l1 x11_1).f0.f3.f1), .int .u64 ((rd_TEntry l1 x11_1).f1.f0), .slice A114_6 ((rd_TEntry l1 x11_1).f1.f1).length c114_6] 39 (0, 0)) (by (with_reducible repeat (first | refine blk_drewN ?_ _ | refine blk_drew ?_ | refine blk_alloc ?_ _)); refine blk_put (cs := #[.bool ((rd_TEntry l1 x11_1).f0.f0), .string ((rd_TEntry l1 x11_1).f0.f1), .string ((rd_TEntry l1 x11_1).f0.f2), .int .u64 ((rd_TEntry l1 x11_1).f0.f3.f0), .int .u64 ((rd_TEntry l1 x11_1).f0.f3.f1), .int .u64 ((rd_TEntry l1 x11_1).f1.f0), .slice none 0 0]) ?_ 6 _ rfl; (with_reducible repeat (first | refine blk_drewN ?_ _ | refine blk_drew ?_ | refine blk_alloc ?_ _)); refine blk_put (cs := #[.bool ((rd_TEntry l1 x11_1).f0.f0), .string ((rd_TEntry l1 x11_1).f0.f1), .string ((rd_TEntry l1 x11_1).f0.f2), .int .u64 ((rd_TEntry l1 x11_1).f0.f3.f0), .int .u64 ((rd_TEntry l1 x11_1).f0.f3.f1), .int .u64 0, .slice none 0 0]) ?_ 5 _ rfl; (with_reducible repeat (first | refine blk_drewN ?_ _ | refine blk_drew ?_ | refine blk_alloc ?_ _)); refine blk_put (cs := #[.bool ((rd_TEntry l1 x11_1).f0.f0), .string ((rd_TEntry l1 x11_1).f0.f1), .string ((rd_TEntry l1 x11_1).f0.f2), .int .u64 ((rd_TEntry l1 x11_1).f0.f3.f0), .int .u64 0, .int .u64 0, .slice none 0 0]) ?_ 4 _ rfl; (with_reducible repeat (first | refine blk_drewN ?_ _ | refine blk_drew ?_ | refine blk_alloc ?_ _)); refine blk_put (cs := #[.bool ((rd_TEntry l1 x11_1).f0.f0), .string ((rd_TEntry l1 x11_1).f0.f1), .string ((rd_TEntry l1 x11_1).f0.f2), .int .u64 0, .int .u64 0, .int .u64 0, .slice none 0 0]) ?_ 3 _ rfl; (with_reducible repeat (first | refine blk_drewN ?_ _ | refine blk_drew ?_ | refine blk_alloc ?_ _)); refine blk_put (cs := #[.bool ((rd_TEntry l1 x11_1).f0.f0), .string ((rd_TEntry l1 x11_1).f0.f1), .string (⟨#[]⟩ : ByteArray), .int .u64 0, .int .u64 0, .int .u64 0, .slice none 0 0]) ?_ 2 _ rfl; (with_reducible repeat (first | refine blk_drewN ?_ _ | refine blk_drew ?_ | refine blk_alloc ?_ _)); refine blk_put (cs := #[.bool ((rd_TEntry l1 x11_1).f0.f0), .string (⟨#[]⟩ : ByteArray), .string (⟨#[]⟩ : ByteArray), .int .u64 0, .int .u64 0, .int .u64 0, .slice none 0 0]) ?_ 1 _ rfl; (with_reducible repeat (first | refine blk_drewN ?_ _ | refine blk_drew ?_ | refine blk_alloc ?_ _)); refine blk_put (cs := #[.bool false, .string (⟨#[]⟩ : ByteArray), .string (⟨#[]⟩ : ByteArray), .int .u64 0, .int .u64 0, .int .u64 0, .slice none 0 0]) ?_ 0 _ rfl; (with_reducible repeat (first | refine blk_drewN ?_ _ | refine blk_drew ?_ | refine blk_alloc ?_ _)); exact BK115.out) hb); have n2_ := aM' (below_step (by repeat (first | (with_reducible first | exact HB.out | apply below_alloc | apply pw_below_drewN | apply below_drew1 | refine below_set ?_ GE113.out | refine below_set ?_ GE115.out) | exact HB.out)) hb); clear BK113; clear BK115; clear HB; have BK113 := n0_; have BK115 := n1_; have HB := n2_; clear n0_ n1_ n2_; (try clear hb); (try clear hb2); (try clear hk); (try clear hi)))
       go_ret2
       exact ⟨by first | rfl | (simp [errW_none, errW_some] <;> rfl) | (simp [*, errW_none, errW_some] <;> rfl), by repeat (first | (with_reducible first | exact HB.out | apply below_alloc | apply pw_below_drewN | apply below_drew1 | refine below_set ?_ GE113.out | refine below_set ?_ GE115.out) | exact HB.out)⟩
     ·
      rw [if_neg c6] at H
      exact absurd H (by simp)
    ·
     rw [if_neg c5] at H
     exact absurd H (by simp)
   ·
    rw [if_neg c4] at H
    have c4b0 : decide (x11_1 < (l1.length : Int)) = false := decide_eq_false c4
    clear c4
    simp only [Option.some.injEq, Prod.mk.injEq] at H
    obtain ⟨rfl, rfl⟩ := H
    go_wp2
    go_ret2
    exact ⟨by first | rfl | (simp [errW_none, errW_some] <;> rfl) | (simp [*, errW_none, errW_some] <;> rfl), by repeat (first | (with_reducible first | exact HB.out | apply below_alloc | apply pw_below_drewN | apply below_drew1 | refine below_set ?_ GE113.out) | exact HB.out)⟩
end Go.Proofs.YtlmmpncdemblbaaGreatDoor.P
namespace Go.Proofs.YtlmmpncdemblbaaGreatDoor.P
open Go.RowKit Go.Proofs.YtlmmpncdemblbaaGreatDoorW.PrintWords Go.Proofs.YtlmmpncdemblbaaGreatDoorW.PrintLast Go.Proofs.YtlmmpncdemblbaaGreatDoorW.PrintMore
set_option linter.unusedVariables false
set_option linter.unusedSimpArgs false
set_option linter.unnecessarySimpa false
theorem refMay_ev (r : SRoot) : Ev (fun k => paymasterref17_May.f k r.f0 r.f1.f0 r.f1.f1 r.f2) (mayRI r) := by
 have hj : ∀ b : Bool, (b = true ↔ (r.f2 < 0 ∨ r.f2 > 63)) → Ev (fun k => paymasterref17_May.j0 k b r.f0 r.f1.f0 r.f1.f1 r.f2) (mayRI r) := by
  intro b hb
  refine Ev.step (f := fun _ => some (mayRI r)) (fun k => ?_) (Ev.now _)
  rw [paymasterref17_May.j0]
  unfold mayRI
  by_cases h1 : r.f2 < 0 ∨ r.f2 > 63
  ·
   rw [if_pos (hb.2 h1), if_pos h1]
  ·
   rw [if_neg (fun h => h1 (hb.1 h)), if_neg h1]
   by_cases h2 : (r.f0.size : Int) < 1
   ·
    rw [if_pos h2, if_pos (.inl h2)]
   ·
    rw [if_neg h2]
    by_cases h3 : (r.f0.size : Int) > 32
    ·
     rw [if_pos h3, if_pos (.inr h3)]
    ·
     rw [if_neg h3, if_neg (by omega)]
 unfold paymasterref17_May.f
 by_cases h : r.f2 < 0
 ·
  exact Ev.congr (fun k => by rw [if_pos h]) (hj true (by simp [h]))
 ·
  exact Ev.congr (fun k => by rw [if_neg h]) (hj (decide (r.f2 > 63)) (by simp; omega))
theorem shapeN_len {a0 a1 p : Int} {l : List SNode} (h : shapeN a0 a1 p l = 0) : (l.length : Int) = a1 := by
 unfold shapeN at h
 split at h
 ·
  exact absurd h (by decide)
 ·
  split at h
  ·
   exact absurd h (by decide)
  ·
   split at h
   ·
    exact absurd h (by decide)
   ·
    rename_i h3
    exact Classical.byContradiction fun hn => h3 (.inl hn)
theorem bne4 (a a' : List UInt8) (b b' c c' d : Int) : ((!(a == a') || ((!(b == b') || (!(c == c'))) || (!(d == d)))) = true) ↔ ¬(a = a' ∧ b = b' ∧ c = c') := by
 simp only [Bool.or_eq_true, Bool.not_eq_true', beq_eq_false_iff_ne, ne_eq, beq_self_eq_true, Bool.not_true, Bool.false_eq_true, or_false, not_true]
 rw [← Classical.not_and_iff_not_or_not, ← Classical.not_and_iff_not_or_not]
end Go.Proofs.YtlmmpncdemblbaaGreatDoor.P
namespace Go.Proofs.YtlmmpncdemblbaaGreatDoor.P
open Go.RowKit Go.Proofs.YtlmmpncdemblbaaGreatDoorW.PrintWords Go.Proofs.YtlmmpncdemblbaaGreatDoorW.PrintLast Go.Proofs.YtlmmpncdemblbaaGreatDoorW.PrintMore
set_option linter.unusedVariables false
set_option linter.unusedSimpArgs false
set_option linter.unnecessarySimpa false
theorem longE_false {e : SEntry} (h : longE e = false) : e.f1.f1.length ≤ 100 ∧ e.f0.f1.size ≤ 200 ∧ e.f0.f2.size ≤ 200 := by
 unfold longE greatL at h
 simp only [Bool.or_eq_false_iff, decide_eq_false_iff_not, List.any_cons, List.any_nil, Bool.or_false] at h
 omega
theorem wfE_okE {e : SEntry} (h : wfEntry e) (hl : longE e = false) : OkE e := by
 obtain ⟨h1, h2, h3⟩ := longE_false hl
 exact ⟨by omega, by omega, ⟨wf_u64 h.1.2.2.2.1, wf_u64 h.1.2.2.2.2⟩, wf_u64 h.2.1, fun x hx => ⟨wf_u64 (h.2.2.2 x hx).2.1, wf_u64 (h.2.2.2 x hx).2.2⟩, by omega⟩
theorem rdEntry_nat (l : List SEntry) (i : Nat) (h : i < l.length) : rd_TEntry l (i : Int) = l[i] := by simp [rd_TEntry, h]
theorem long17_loop (l : List SEntry) (hl : l.length ≤ 40) (hw : ∀ e ∈ l, wfEntry e) : ∀ d i : Nat, i + d = l.length → Ev (fun k => paymasterlaw17_Long.l0 k l (i : Int)) ((l.drop i).any longE) := by
 intro d
 induction d with
 | zero =>
  intro i hi
  rw [List.drop_of_length_le (by omega)]
  refine Ev.step (f := fun _ => some false) (fun k => ?_) (Ev.now false)
  simp only [paymasterlaw17_Long.l0]; rw [if_neg (by omega)]
 | succ d ih =>
  intro i hi
  have hlt : i < l.length := by omega
  have hle : l[i].f1.f1.length ≤ 9223372036854775807 := by have := (hw l[i] (List.getElem_mem hlt)).2.2.1; omega
  rw [any_drop_succ _ l i hlt]
  refine Ev.step (f := fun k => (paymasterlaw16_LongEntry.f k l[i].f0.f0 l[i].f0.f1 l[i].f0.f2 l[i].f0.f3.f0 l[i].f0.f3.f1 l[i].f1.f0 l[i].f1.f1).bind fun t => if t = true then some true else paymasterlaw17_Long.l0 k l ((i + 1 : Nat) : Int)) (fun k => ?_) (Ev.bind (longE_ev _ hle) ?_)
  ·
   simp only [paymasterlaw17_Long.l0]; rw [if_pos (by omega), if_pos (by omega), rdEntry_nat l i hlt, wrap64_id (by omega) (by omega)]; rfl
  ·
   cases hb : longE l[i] with
   | true => exact Ev.some_ (fun k => by simp)
   | false => exact Ev.congr (fun k => by simp) (ev_eq (ih (i + 1) (by omega)) (by simp))
theorem long17_ev (r : SRoot) (l : List SEntry) (hw : ∀ e ∈ l, wfEntry e) : ∃ b, Ev (fun k => paymasterlaw17_Long.f k r.f0 r.f1.f0 r.f1.f1 r.f2 l) b ∧ (b = false → l.length ≤ 40 ∧ r.f0.size ≤ 60 ∧ ∀ e ∈ l, OkE e) := by
 unfold paymasterlaw17_Long.f
 by_cases h : (l.length : Int) > 40
 ·
  exact ⟨true, Ev.congr (fun k => if_pos h) (Ev.step (f := fun _ => some true) (fun k => by simp [paymasterlaw17_Long.j0]) (Ev.now _)), fun h => by cases h⟩
 by_cases h2 : (r.f0.size : Int) > 60
 ·
  exact ⟨true, Ev.congr (fun k => if_neg h) (Ev.step (f := fun _ => some true) (fun k => by simp only [paymasterlaw17_Long.j0]; rw [if_pos (decide_eq_true h2)]) (Ev.now _)), fun h => by cases h⟩
 refine ⟨l.any longE, Ev.congr (fun k => if_neg h) (Ev.step (f := fun k => paymasterlaw17_Long.l0 k l ((0 : Nat) : Int)) (fun k => ?_) (ev_eq (long17_loop l (by omega) hw l.length 0 (by omega)) (by rw [List.drop_zero]))), fun hb => ⟨by omega, by omega, fun e he => wfE_okE (hw e he) ?_⟩⟩
 ·
  simp only [paymasterlaw17_Long.j0]; rw [if_neg (by simpa using h2)]; rfl
 ·
  cases hE : longE e with
  | false => rfl
  | true => rw [List.any_eq_true.2 ⟨e, he, hE⟩] at hb; cases hb
end Go.Proofs.YtlmmpncdemblbaaGreatDoor.P
namespace Go.Proofs.YtlmmpncdemblbaaGreatDoor.P
open Go.RowKit Go.Proofs.YtlmmpncdemblbaaGreatDoorW.PrintWords Go.Proofs.YtlmmpncdemblbaaGreatDoorW.PrintLast Go.Proofs.YtlmmpncdemblbaaGreatDoorW.PrintMore
set_option linter.unusedVariables false
set_option linter.unusedSimpArgs false
set_option linter.unnecessarySimpa false
attribute [local go_sem high] eqARoot
def cmpU (u : ByteArray × Int × Int × Int × Int) (r : SRoot) : Bool := (!(u.1.toList == r.f0.toList) || ((!(u.2.1 == r.f1.f0) || (!(u.2.2.1 == r.f1.f1))) || (!(u.2.2.2.1 == r.f2))))
theorem checkI_up (r : SRoot) (e : SEntry) : checkI r e = if mayRI r = 0 then (if mayLeafI e.f0 = true then (if shapeN (r.f0.size : Int) r.f2 e.f1.f0 e.f1.f1 = 0 then (if (upI (r.f0.size : Int) e).2.2.2.2 = 0 then (if cmpU (upI (r.f0.size : Int) e) r = true then 160 else 0) else (upI (r.f0.size : Int) e).2.2.2.2) else shapeN (r.f0.size : Int) r.f2 e.f1.f0 e.f1.f1) else 130) else mayRI r := by
 unfold checkI
 by_cases h0 : mayRI r = 0
 ·
  rw [if_pos h0, if_pos h0]
  by_cases h1 : mayLeafI e.f0 = true
  ·
   rw [if_pos h1, if_pos h1]
   by_cases h2 : shapeN (r.f0.size : Int) r.f2 e.f1.f0 e.f1.f1 = 0
   ·
    rw [if_pos h2, if_pos h2]
    have hl := shapeN_len h2
    have h2' : shapeN (r.f0.size : Int) (e.f1.f1.length : Int) e.f1.f0 e.f1.f1 = 0 := by rw [hl]; exact h2
    by_cases h3 : (climbE (r.f0.size : Int) e).2.2.2 = 0
    ·
     have hu : upI (r.f0.size : Int) e = ((climbE (r.f0.size : Int) e).1, (climbE (r.f0.size : Int) e).2.1, (climbE (r.f0.size : Int) e).2.2.1, (e.f1.f1.length : Int), 0) := by unfold upI; rw [if_pos h1, if_pos h2', if_pos h3]
     rw [if_pos h3, hu, if_pos rfl]
     unfold cmpU
     dsimp only
     rw [hl]
     by_cases h4 : (climbE (r.f0.size : Int) e).1.toList = r.f0.toList ∧ (climbE (r.f0.size : Int) e).2.1 = r.f1.f0 ∧ (climbE (r.f0.size : Int) e).2.2.1 = r.f1.f1
     ·
      rw [if_pos h4, if_neg (fun h => (bne4 _ _ _ _ _ _ _).1 h h4)]
     ·
      rw [if_neg h4, if_pos ((bne4 _ _ _ _ _ _ _).2 h4)]
    ·
     have hu : upI (r.f0.size : Int) e = (⟨#[]⟩, 0, 0, 0, (climbE (r.f0.size : Int) e).2.2.2) := by unfold upI; rw [if_pos h1, if_pos h2', if_neg h3]
     rw [if_neg h3, hu]
     dsimp only
     rw [if_neg h3]
   ·
    rw [if_neg h2, if_neg h2]
  ·
   rw [if_neg h1, if_neg h1]
 ·
  rw [if_neg h0, if_neg h0]
structure CkS (w W : World) (r : SRoot) (e : SEntry) (A : Option Addr) (c : Nat) : Prop where
 hB : Below w.heap.size w W
 h0 : W.heap[w.heap.size]? = some (.cells (rootA r) 26 (0, 0))
 h1 : W.heap[w.heap.size + 1]? = some (.cells (entA e A c) 39 (0, 0))
theorem CkS.below {w W W' : World} {r : SRoot} {e : SEntry} {A : Option Addr} {c : Nat} (h : CkS w W r e A c) (hb : Below W.heap.size W W') : CkS w W' r e A c := ⟨h.hB.trans (hb.mono h.hB.size), blk_below h.h0 hb, blk_below h.h1 hb⟩
theorem CkS.start (w : World) (r : SRoot) (e : SEntry) (A : Option Addr) (c : Nat) : CkS w ((w.alloc (.cells (rootA r) 26 (0, 0))).alloc (.cells (entA e A c) 39 (0, 0))) r e A c :=
 ⟨below_alloc (below_alloc (Below.refl _ _) _) _, blk_alloc (blk_new w _) _, by have := blk_new (w.alloc (.cells (rootA r) 26 (0, 0))) (.cells (entA e A c) 39 (0, 0)); simpa using this⟩
set_option maxRecDepth 100000 in
set_option maxHeartbeats 4000000 in
theorem refCheck.calls (r : SRoot) (e : SEntry) (A : Option Addr) (c : Nat) (w : World) (hK : LaidT w) (hr : Kd.C kNode w A e.f1.f1.length e.f1.f1) (hc : e.f1.f1.length ≤ c) (he : OkE e) :
  Calls Tryz.prog 8 #[.agg (rootA r), .agg (entA e A c)] w fun x w' => x = .returned (.int .i64 (checkI r e)) ∧ Below w.heap.size w w' := by
 have HK := aM' hK
 have HR := aM' hr
 have HC := aM' hc
 have HE := aM' he
 obtain ⟨km, hkm⟩ := refMay_ev r
 have HM := aM' (hkm km (Nat.le_refl _))
 obtain ⟨kl, hkl⟩ := refMayLeaf_ev e.f0 he.id
 have HL := aM' (hkl kl (Nat.le_refl _))
 obtain ⟨ks, hks⟩ := refShape_ev (r.f0.size : Int) r.f2 e.f1.f0 e.f1.f1 he.p.1 he.ls
 have HSh := aM' (hks ks (Nat.le_refl _))
 have HCk := aM' (checkI_up r e)
 have HU : Aside0 (Calls Tryz.prog 18 = Calls Tryz.prog 18) := ⟨rfl⟩
 clear hK hr hc he hkm hkl hks HU
 generalize checkI r e = ck at HCk ⊢
 generalize mayRI r = mr at HM HCk
 generalize mayLeafI e.f0 = ml at HL HCk
 generalize shapeN (r.f0.size : Int) r.f2 e.f1.f0 e.f1.f1 = sh at HSh HCk
 have HUp := aM' (fun W hK hr => refUp.calls (r.f0.size : Int) e A c W hK hr HC.out HE.out)
 generalize hu : upI (r.f0.size : Int) e = u at HCk HUp
 clear hu
 obtain ⟨u1, u2, u3, u4, u5⟩ := u
 dsimp only at HCk
 have HUp : Aside0 (∀ W, LaidT W → Kd.C kNode W A e.f1.f1.length e.f1.f1 → Calls Tryz.prog 18 #[.int .i64 (r.f0.size : Int), .agg (entA e A c)] W fun x w' => x = .returned (.tuple #[.agg #[.string u1, .int .u64 u2, .int .u64 u3, .int .i64 u4], .int .i64 u5]) ∧ Below W.heap.size W w') := ⟨HUp.out⟩
 go_enter Tryz.func8, Tryz.ntmps8
 by_cases h0 : mr = 0
 ·
  have m0 : (mr != 0) = false := by simp [h0]
  go_wp2_with fail
  refine (paymasterref17_May.calls km r.f0 r.f1.f0 r.f1.f1 r.f2 mr _ HM.out).mono ?_
  rintro x w1 ⟨rfl, hb1⟩
  have HS1 : Aside0 (CkS w w1 r e A c) := ⟨(CkS.start w r e A c).below hb1⟩
  clear hb1
  have ra0 : w1.cell? ⟨w.heap.size, 0, none⟩ = some (.string r.f0) := blk_cell HS1.out.h0 0
  have ra1 : w1.cell? ⟨w.heap.size, 1, none⟩ = some (.int .u64 r.f1.f0) := blk_cell HS1.out.h0 1
  have ra2 : w1.cell? ⟨w.heap.size, 2, none⟩ = some (.int .u64 r.f1.f1) := blk_cell HS1.out.h0 2
  have ra3 : w1.cell? ⟨w.heap.size, 3, none⟩ = some (.int .i64 r.f2) := blk_cell HS1.out.h0 3
  have ea0 : w1.cell? ⟨w.heap.size + 1, 0, none⟩ = some (.bool e.f0.f0) := blk_cell HS1.out.h1 0
  have ea1 : w1.cell? ⟨w.heap.size + 1, 1, none⟩ = some (.string e.f0.f1) := blk_cell HS1.out.h1 1
  have ea2 : w1.cell? ⟨w.heap.size + 1, 2, none⟩ = some (.string e.f0.f2) := blk_cell HS1.out.h1 2
  have ea3 : w1.cell? ⟨w.heap.size + 1, 3, none⟩ = some (.int .u64 e.f0.f3.f0) := blk_cell HS1.out.h1 3
  have ea4 : w1.cell? ⟨w.heap.size + 1, 4, none⟩ = some (.int .u64 e.f0.f3.f1) := blk_cell HS1.out.h1 4
  have ea5 : w1.cell? ⟨w.heap.size + 1, 5, none⟩ = some (.int .u64 e.f1.f0) := blk_cell HS1.out.h1 5
  have ea6 : w1.cell? ⟨w.heap.size + 1, 6, none⟩ = some (.slice A e.f1.f1.length c) := blk_cell HS1.out.h1 6
  cases ml with
  | false =>
   go_wp2_with fail
   refine (paymasterref07_MayLeaf.calls kl e.f0.f0 e.f0.f1 e.f0.f2 e.f0.f3.f0 e.f0.f3.f1 false _ HL.out).mono ?_
   rintro x w2 ⟨rfl, hb2⟩
   have HS2 : Aside0 (CkS w w2 r e A c) := ⟨HS1.out.below hb2⟩
   clear hb2
   go_wp2
   go_ret
   exact ⟨by rw [HCk.out, if_pos h0, if_neg (by decide)]; rfl, HS2.out.hB⟩
  | true =>
   go_wp2_with fail
   refine (paymasterref07_MayLeaf.calls kl e.f0.f0 e.f0.f1 e.f0.f2 e.f0.f3.f0 e.f0.f3.f1 true _ HL.out).mono ?_
   rintro x w2 ⟨rfl, hb2⟩
   have HS2 : Aside0 (CkS w w2 r e A c) := ⟨HS1.out.below hb2⟩
   clear hb2
   clear ra0 ra1 ra2 ra3 ea0 ea1 ea2 ea3 ea4 ea5 ea6
   have ra0 : w2.cell? ⟨w.heap.size, 0, none⟩ = some (.string r.f0) := blk_cell HS2.out.h0 0
   have ra1 : w2.cell? ⟨w.heap.size, 1, none⟩ = some (.int .u64 r.f1.f0) := blk_cell HS2.out.h0 1
   have ra2 : w2.cell? ⟨w.heap.size, 2, none⟩ = some (.int .u64 r.f1.f1) := blk_cell HS2.out.h0 2
   have ra3 : w2.cell? ⟨w.heap.size, 3, none⟩ = some (.int .i64 r.f2) := blk_cell HS2.out.h0 3
   have ea0 : w2.cell? ⟨w.heap.size + 1, 0, none⟩ = some (.bool e.f0.f0) := blk_cell HS2.out.h1 0
   have ea1 : w2.cell? ⟨w.heap.size + 1, 1, none⟩ = some (.string e.f0.f1) := blk_cell HS2.out.h1 1
   have ea2 : w2.cell? ⟨w.heap.size + 1, 2, none⟩ = some (.string e.f0.f2) := blk_cell HS2.out.h1 2
   have ea3 : w2.cell? ⟨w.heap.size + 1, 3, none⟩ = some (.int .u64 e.f0.f3.f0) := blk_cell HS2.out.h1 3
   have ea4 : w2.cell? ⟨w.heap.size + 1, 4, none⟩ = some (.int .u64 e.f0.f3.f1) := blk_cell HS2.out.h1 4
   have ea5 : w2.cell? ⟨w.heap.size + 1, 5, none⟩ = some (.int .u64 e.f1.f0) := blk_cell HS2.out.h1 5
   have ea6 : w2.cell? ⟨w.heap.size + 1, 6, none⟩ = some (.slice A e.f1.f1.length c) := blk_cell HS2.out.h1 6
   by_cases h2 : sh = 0
   ·
    have m2 : (sh != 0) = false := by simp [h2]
    go_wp2_with fail
    refine (paymasterref16_Shape.calls ks (r.f0.size : Int) r.f2 e.f1.f0 A c e.f1.f1 sh _ (Kd.C_below HR.out HS2.out.hB) HC.out HSh.out).mono ?_
    rintro x w3 ⟨rfl, hb3⟩
    have HS3 : Aside0 (CkS w w3 r e A c) := ⟨HS2.out.below hb3⟩
    clear hb3
    clear ra0 ra1 ra2 ra3 ea0 ea1 ea2 ea3 ea4 ea5 ea6
    have ra0 : w3.cell? ⟨w.heap.size, 0, none⟩ = some (.string r.f0) := blk_cell HS3.out.h0 0
    have ra1 : w3.cell? ⟨w.heap.size, 1, none⟩ = some (.int .u64 r.f1.f0) := blk_cell HS3.out.h0 1
    have ra2 : w3.cell? ⟨w.heap.size, 2, none⟩ = some (.int .u64 r.f1.f1) := blk_cell HS3.out.h0 2
    have ra3 : w3.cell? ⟨w.heap.size, 3, none⟩ = some (.int .i64 r.f2) := blk_cell HS3.out.h0 3
    have ea0 : w3.cell? ⟨w.heap.size + 1, 0, none⟩ = some (.bool e.f0.f0) := blk_cell HS3.out.h1 0
    have ea1 : w3.cell? ⟨w.heap.size + 1, 1, none⟩ = some (.string e.f0.f1) := blk_cell HS3.out.h1 1
    have ea2 : w3.cell? ⟨w.heap.size + 1, 2, none⟩ = some (.string e.f0.f2) := blk_cell HS3.out.h1 2
    have ea3 : w3.cell? ⟨w.heap.size + 1, 3, none⟩ = some (.int .u64 e.f0.f3.f0) := blk_cell HS3.out.h1 3
    have ea4 : w3.cell? ⟨w.heap.size + 1, 4, none⟩ = some (.int .u64 e.f0.f3.f1) := blk_cell HS3.out.h1 4
    have ea5 : w3.cell? ⟨w.heap.size + 1, 5, none⟩ = some (.int .u64 e.f1.f0) := blk_cell HS3.out.h1 5
    have ea6 : w3.cell? ⟨w.heap.size + 1, 6, none⟩ = some (.slice A e.f1.f1.length c) := blk_cell HS3.out.h1 6
    by_cases h3 : u5 = 0
    ·
     have m3 : (u5 != 0) = false := by simp [h3]
     go_wp2_with fail
     refine (HUp.out _ (HK.out.below HS3.out.hB) (Kd.C_below HR.out HS3.out.hB)).mono ?_
     rintro x w4 ⟨rfl, hb4⟩
     have HS4 : Aside0 (CkS w w4 r e A c) := ⟨HS3.out.below hb4⟩
     clear hb4
     clear ra0 ra1 ra2 ra3 ea0 ea1 ea2 ea3 ea4 ea5 ea6
     have ra0 : w4.cell? ⟨w.heap.size, 0, none⟩ = some (.string r.f0) := blk_cell HS4.out.h0 0
     have ra1 : w4.cell? ⟨w.heap.size, 1, none⟩ = some (.int .u64 r.f1.f0) := blk_cell HS4.out.h0 1
     have ra2 : w4.cell? ⟨w.heap.size, 2, none⟩ = some (.int .u64 r.f1.f1) := blk_cell HS4.out.h0 2
     have ra3 : w4.cell? ⟨w.heap.size, 3, none⟩ = some (.int .i64 r.f2) := blk_cell HS4.out.h0 3
     have rb0 : ∀ o, (w4.alloc o).cell? ⟨w.heap.size, 0, none⟩ = some (.string r.f0) := fun o => blk_cell (blk_alloc HS4.out.h0 o) 0
     have rb1 : ∀ o, (w4.alloc o).cell? ⟨w.heap.size, 1, none⟩ = some (.int .u64 r.f1.f0) := fun o => blk_cell (blk_alloc HS4.out.h0 o) 1
     have rb2 : ∀ o, (w4.alloc o).cell? ⟨w.heap.size, 2, none⟩ = some (.int .u64 r.f1.f1) := fun o => blk_cell (blk_alloc HS4.out.h0 o) 2
     have rb3 : ∀ o, (w4.alloc o).cell? ⟨w.heap.size, 3, none⟩ = some (.int .i64 r.f2) := fun o => blk_cell (blk_alloc HS4.out.h0 o) 3
     cases hm : cmpU (u1, u2, u3, u4, u5) r with
     | true =>
      have HB : Aside0 (cmpU (u1, u2, u3, u4, u5) r = true) := ⟨hm⟩
      simp only [cmpU] at hm
      go_wp2
      go_ret
      exact ⟨by rw [HCk.out, if_pos h0, if_pos trivial, if_pos h2, if_pos h3, if_pos HB.out]; rfl, below_alloc HS4.out.hB _⟩
     | false =>
      have HB : Aside0 (cmpU (u1, u2, u3, u4, u5) r = false) := ⟨hm⟩
      simp only [cmpU] at hm
      go_wp2
      go_ret
      exact ⟨by rw [HCk.out, if_pos h0, if_pos trivial, if_pos h2, if_pos h3, if_neg (by rw [HB.out]; decide)]; rfl, below_alloc HS4.out.hB _⟩
    ·
     have m3 : (u5 != 0) = true := by simp [h3]
     go_wp2_with fail
     refine (HUp.out _ (HK.out.below HS3.out.hB) (Kd.C_below HR.out HS3.out.hB)).mono ?_
     rintro x w4 ⟨rfl, hb4⟩
     have HS4 : Aside0 (CkS w w4 r e A c) := ⟨HS3.out.below hb4⟩
     clear hb4
     clear ra0 ra1 ra2 ra3 ea0 ea1 ea2 ea3 ea4 ea5 ea6
     have ra0 : w4.cell? ⟨w.heap.size, 0, none⟩ = some (.string r.f0) := blk_cell HS4.out.h0 0
     have ra1 : w4.cell? ⟨w.heap.size, 1, none⟩ = some (.int .u64 r.f1.f0) := blk_cell HS4.out.h0 1
     have ra2 : w4.cell? ⟨w.heap.size, 2, none⟩ = some (.int .u64 r.f1.f1) := blk_cell HS4.out.h0 2
     have ra3 : w4.cell? ⟨w.heap.size, 3, none⟩ = some (.int .i64 r.f2) := blk_cell HS4.out.h0 3
     have rb0 : ∀ o, (w4.alloc o).cell? ⟨w.heap.size, 0, none⟩ = some (.string r.f0) := fun o => blk_cell (blk_alloc HS4.out.h0 o) 0
     have rb1 : ∀ o, (w4.alloc o).cell? ⟨w.heap.size, 1, none⟩ = some (.int .u64 r.f1.f0) := fun o => blk_cell (blk_alloc HS4.out.h0 o) 1
     have rb2 : ∀ o, (w4.alloc o).cell? ⟨w.heap.size, 2, none⟩ = some (.int .u64 r.f1.f1) := fun o => blk_cell (blk_alloc HS4.out.h0 o) 2
     have rb3 : ∀ o, (w4.alloc o).cell? ⟨w.heap.size, 3, none⟩ = some (.int .i64 r.f2) := fun o => blk_cell (blk_alloc HS4.out.h0 o) 3
     go_wp2
     go_ret
     exact ⟨by rw [HCk.out, if_pos h0, if_pos trivial, if_pos h2, if_neg h3]; rfl, below_alloc HS4.out.hB _⟩
   ·
    have m2 : (sh != 0) = true := by simp [h2]
    go_wp2_with fail
    refine (paymasterref16_Shape.calls ks (r.f0.size : Int) r.f2 e.f1.f0 A c e.f1.f1 sh _ (Kd.C_below HR.out HS2.out.hB) HC.out HSh.out).mono ?_
    rintro x w3 ⟨rfl, hb3⟩
    have HS3 : Aside0 (CkS w w3 r e A c) := ⟨HS2.out.below hb3⟩
    clear hb3
    go_wp2
    go_ret
    exact ⟨by rw [HCk.out, if_pos h0, if_pos trivial, if_neg h2]; rfl, HS3.out.hB⟩
 ·
  have m0 : (mr != 0) = true := by simp [h0]
  go_wp2_with fail
  refine (paymasterref17_May.calls km r.f0 r.f1.f0 r.f1.f1 r.f2 mr _ HM.out).mono ?_
  rintro x w1 ⟨rfl, hb1⟩
  have HS1 : Aside0 (CkS w w1 r e A c) := ⟨(CkS.start w r e A c).below hb1⟩
  clear hb1
  go_wp2
  go_ret
  exact ⟨by rw [HCk.out, if_neg h0]; rfl, HS1.out.hB⟩
end Go.Proofs.YtlmmpncdemblbaaGreatDoor.P
namespace Go.Proofs.YtlmmpncdemblbaaGreatDoor.P
open Go.RowKit Go.Proofs.YtlmmpncdemblbaaGreatDoorW.PrintWords Go.Proofs.YtlmmpncdemblbaaGreatDoorW.PrintLast Go.Proofs.YtlmmpncdemblbaaGreatDoorW.PrintMore
set_option linter.unusedVariables false
set_option linter.unusedSimpArgs false
set_option linter.unnecessarySimpa false
def firstB (r : SRoot) : List SEntry → Int → Int × Int
 | [], i => (i, 0)
 | e :: l, i => if checkI r e = 0 then firstB r l (i + 1) else (i, checkI r e)
theorem all_loop (r : SRoot) (l : List SEntry) (hl : l.length ≤ 40) (hok : ∀ e ∈ l, OkE e) : ∀ d i : Nat, i + d = l.length → Ev (fun k => verify_All.l0 k l l (l.length : Int) (i : Int) r.f0 r.f1.f0 r.f1.f1 r.f2) (firstB r (l.drop i) (i : Int)) := by
 intro d
 induction d with
 | zero =>
  intro i hi
  rw [List.drop_of_length_le (by omega)]
  refine Ev.step (f := fun _ => some ((l.length : Int), 0)) (fun k => ?_) (ev_eq (Ev.now _) ?_)
  ·
   simp only [verify_All.l0]; rw [if_neg (by omega)]
  ·
   show ((l.length : Int), (0 : Int)) = ((i : Int), 0)
   rw [show i = l.length by omega]
 | succ d ih =>
  intro i hi
  have hlt : i < l.length := by omega
  rw [List.drop_eq_getElem_cons hlt]
  refine Ev.step (f := fun k => if checkI r l[i] = 0 then verify_All.l0 k l l (l.length : Int) ((i + 1 : Nat) : Int) r.f0 r.f1.f0 r.f1.f1 r.f2 else some ((i : Int), checkI r l[i])) (fun k => ?_) ?_
  ·
   simp only [verify_All.l0]; rw [if_pos (by omega), if_pos (by omega), if_pos (by omega), rdEntry_nat l i hlt, verifyCheck_eq r l[i] (hok _ (List.getElem_mem hlt)), wrap64_id (by omega) (by omega)]; rfl
  ·
   unfold firstB
   by_cases hc : checkI r l[i] = 0
   ·
    rw [if_pos hc]; exact Ev.congr (fun k => if_pos hc) (ih (i + 1) (by omega))
   ·
    rw [if_neg hc]; exact Ev.some_ (fun k => if_neg hc)
end Go.Proofs.YtlmmpncdemblbaaGreatDoor.P
namespace Go.Proofs.YtlmmpncdemblbaaGreatDoor.P
open Go.RowKit Go.Proofs.YtlmmpncdemblbaaGreatDoorW.PrintWords Go.Proofs.YtlmmpncdemblbaaGreatDoorW.PrintLast Go.Proofs.YtlmmpncdemblbaaGreatDoorW.PrintMore
set_option linter.unusedVariables false
set_option linter.unusedSimpArgs false
set_option linter.unnecessarySimpa false
attribute [local go_sem] sel_true
structure TkS (w W : World) (r : SRoot) : Prop where
 hB : Below w.heap.size w W
 h0 : W.heap[w.heap.size]? = some (.cells (rootA r) 26 (0, 0))
theorem TkS.below {w W W' : World} {r : SRoot} (h : TkS w W r) (hb : Below W.heap.size W W') : TkS w W' r := ⟨h.hB.trans (hb.mono h.hB.size), blk_below h.h0 hb⟩
theorem TkS.start (w : World) (r : SRoot) : TkS w (w.alloc (.cells (rootA r) 26 (0, 0))) r := ⟨below_alloc (Below.refl _ _) _, blk_new w _⟩
structure EnC (w : World) (p : Addr) (e : SEntry) (A : Option Addr) (c : Nat) : Prop where
 c0 : w.cell? p = some (.bool e.f0.f0)
 c1 : w.cell? ⟨p.block, p.off + 1, none⟩ = some (.string e.f0.f1)
 c2 : w.cell? ⟨p.block, p.off + 2, none⟩ = some (.string e.f0.f2)
 c3 : w.cell? ⟨p.block, p.off + 3, none⟩ = some (.int .u64 e.f0.f3.f0)
 c4 : w.cell? ⟨p.block, p.off + 4, none⟩ = some (.int .u64 e.f0.f3.f1)
 c5 : w.cell? ⟨p.block, p.off + 5, none⟩ = some (.int .u64 e.f1.f0)
 c6 : w.cell? ⟨p.block, p.off + 6, none⟩ = some (.slice A e.f1.f1.length c)
theorem EnC.below {w W : World} {p : Addr} {e : SEntry} {A : Option Addr} {c : Nat} (h : EnC w p e A c) (hb : Below w.heap.size w W) : EnC W p e A c :=
 ⟨(hb.cell (bL' w _ h.c0)).trans h.c0, (hb.cell (bL' w _ h.c1)).trans h.c1, (hb.cell (bL' w _ h.c2)).trans h.c2, (hb.cell (bL' w _ h.c3)).trans h.c3, (hb.cell (bL' w _ h.c4)).trans h.c4, (hb.cell (bL' w _ h.c5)).trans h.c5, (hb.cell (bL' w _ h.c6)).trans h.c6⟩
theorem entry_at {w : World} {A : Option Addr} {l : List SEntry} (h : Kd.C kEntry w A l.length l) (i : Nat) (hi : i < l.length) : ∃ ad A6 c6, A = some ad ∧ EnC w (ad.add (i * 7)) l[i] A6 c6 ∧ l[i].f1.f1.length ≤ c6 ∧ Kd.C kNode w A6 l[i].f1.f1.length l[i].f1.f1 := by
 obtain ⟨ad, A6, c6, e, h0, h1, h2, h3, h4, h5, h6, h7, h8⟩ := at_TEntry h (i : Int) (by omega) (by omega)
 rw [rdEntry_nat l i hi, Int.toNat_natCast] at *
 exact ⟨ad, A6, c6, e, ⟨h0, h1, h2, h3, h4, h5, h6⟩, h7, h8⟩
set_option maxRecDepth 100000 in
set_option maxHeartbeats 4000000 in
theorem lawtells.calls (r : SRoot) (es : List SEntry) (A : Option Addr) (c : Nat) (w : World) (hK : LaidT w) (hr : Kd.C kEntry w A es.length es) (hc : es.length ≤ c) (hw : ∀ e ∈ es, wfEntry e) :
  Calls Tryz.prog 3 #[.agg (rootA r), .slice A es.length c] w fun x w' => x = .returned (.bool true) ∧ Below w.heap.size w w' := by
 obtain ⟨bL, hev, hf⟩ := long17_ev r es hw
 obtain ⟨kL, hL⟩ := hev.rounds
 obtain ⟨km, hkm⟩ := refMay_ev r
 obtain ⟨kv, hkv⟩ := verifyMay_ev r
 have HMr := aM' (hkm km (Nat.le_refl _))
 have HMv := aM' (hkv kv (Nat.le_refl _))
 have HK := aM' hK
 have HR := aM' hr
 have HC := aM' hc
 have HLo := aM' hL
 have HF := aM' hf
 clear hK hr hc hL hf hev hw hkm hkv
 go_enter Tryz.func3, Tryz.ntmps3
 go_wp2_with fail
 refine (paymasterlaw17_Long.calls kL r.f0 r.f1.f0 r.f1.f1 r.f2 A c es bL _ (Kd.C_below HR.out (TkS.start w r).hB) HC.out HLo.out).mono ?_
 rintro x w1 ⟨rfl, hb1⟩
 have HS1 : Aside0 (TkS w w1 r) := ⟨(TkS.start w r).below hb1⟩
 clear hb1
 cases bL with
 | true =>
  go_wp2
  go_ret
  exact ⟨rfl, HS1.out.hB⟩
 | false =>
 obtain ⟨h40, _, hok⟩ := HF.out rfl
 have H40 := aM' h40
 have HOK := aM' hok
 clear h40 hok HF HLo
 go_wp2
 refine region_inv (fun l a W => a = ({ tmps := #[.agg (rootA r), .slice A es.length c, .pointer (some ⟨w.heap.size, 0, none⟩), undef, .bool false, undef, undef, undef, undef, undef, undef, .agg #[.string r.f0, .int .u64 r.f1.f0, .int .u64 r.f1.f1, .int .i64 r.f2], .slice A es.length c, .bool false, sel (l 0) (.agg #[.string r.f0, .int .u64 r.f1.f0, .int .u64 r.f1.f1, .int .i64 r.f2]) (undef), sel (l 1) (.int .i64 (mayRI r)) (undef), sel (l 2) (.agg #[.string r.f0, .int .u64 r.f1.f0, .int .u64 r.f1.f1, .int .i64 r.f2]) (undef), sel (l 3) (.int .i64 (mayRI r)) (undef), sel (l 4) (.bool false) (undef), undef, undef, undef, undef, undef, undef, undef, undef, undef, undef, undef, undef, undef, undef, undef, undef, undef, undef, undef, undef, undef, undef, undef, undef, undef, undef, undef, undef, undef, undef, undef, undef, undef, undef, undef, undef, undef, undef, undef, undef, undef], defers := [] } : Act) ∧ TkS w W r) 5 rfl rfl (by kernel_rfl) ?h0 ?hend ?hstep
 case h0 => exact ⟨rfl, HS1.out.below (below_drew (Below.refl _ _))⟩
 case hstep =>
  refine rg_cons (rg_cons (rg_cons (rg_cons (rg_cons (rg_nil) ?s0) ?s1) ?s2) ?s3) ?s4
  case s0 =>
   refine rg_step rfl ?_
   rintro l a W ⟨rfl, hI⟩ hl hd
   clear hd
   have x0 := blk_cell (hI.h0) 0
   have x1 := blk_cell (hI.h0) 1
   have x2 := blk_cell (hI.h0) 2
   have x3 := blk_cell (hI.h0) 3
   simp at x0 x1 x2 x3
   refine rg_val (v := .agg #[.string r.f0, .int .u64 r.f1.f0, .int .u64 r.f1.f1, .int .i64 r.f2]) (w' := W) rfl (by go_simp) ?_
   refine ⟨?_, ?_⟩
   ·
    simp only [Act.put, List.setIfInBounds_toArray, List.set_cons_zero, List.set_cons_succ]; rfl
   ·
    exact hI
  case s1 =>
   refine rg_step rfl ?_
   rintro l a W ⟨rfl, hI⟩ hl hd
   have d0 := hd 0 (by decide)
   clear hd
   refine rg_call rfl (by go_simp; exact ⟨rfl, rfl⟩) ?_
   refine (verify_May.calls kv r.f0 r.f1.f0 r.f1.f1 r.f2 _ _ HMv.out).mono ?_
   rintro x W' ⟨rfl, hb⟩
   refine ⟨_, rfl, ?_, ?_⟩
   ·
    simp only [Act.put, List.setIfInBounds_toArray, List.set_cons_zero, List.set_cons_succ]; rfl
   ·
    exact hI.below hb
  case s2 =>
   refine rg_step rfl ?_
   rintro l a W ⟨rfl, hI⟩ hl hd
   clear hd
   have x0 := blk_cell (hI.h0) 0
   have x1 := blk_cell (hI.h0) 1
   have x2 := blk_cell (hI.h0) 2
   have x3 := blk_cell (hI.h0) 3
   simp at x0 x1 x2 x3
   refine rg_val (v := .agg #[.string r.f0, .int .u64 r.f1.f0, .int .u64 r.f1.f1, .int .i64 r.f2]) (w' := W) rfl (by go_simp) ?_
   refine ⟨?_, ?_⟩
   ·
    simp only [Act.put, List.setIfInBounds_toArray, List.set_cons_zero, List.set_cons_succ]; rfl
   ·
    exact hI
  case s3 =>
   refine rg_step rfl ?_
   rintro l a W ⟨rfl, hI⟩ hl hd
   have d2 := hd 2 (by decide)
   clear hd
   refine rg_call rfl (by go_simp; exact ⟨rfl, rfl⟩) ?_
   refine (paymasterref17_May.calls km r.f0 r.f1.f0 r.f1.f1 r.f2 _ _ HMr.out).mono ?_
   rintro x W' ⟨rfl, hb⟩
   refine ⟨_, rfl, ?_, ?_⟩
   ·
    simp only [Act.put, List.setIfInBounds_toArray, List.set_cons_zero, List.set_cons_succ]; rfl
   ·
    exact hI.below hb
  case s4 =>
   refine rg_step rfl ?_
   rintro l a W ⟨rfl, hI⟩ hl hd
   have d1 := hd 1 (by decide)
   have d3 := hd 3 (by decide)
   clear hd
   refine rg_val (v := .bool false) (w' := W) rfl (by go_simp) ?_
   refine ⟨?_, ?_⟩
   ·
    simp only [Act.put, List.setIfInBounds_toArray, List.set_cons_zero, List.set_cons_succ]; rfl
   ·
    exact hI
 case hend =>
  rintro l a W ⟨rfl, hI⟩ hall
  have e0 := hall 0 (by decide)
  have e1 := hall 1 (by decide)
  have e2 := hall 2 (by decide)
  have e3 := hall 3 (by decide)
  have e4 := hall 4 (by decide)
  clear hall
  simp only [e0, e1, e2, e3, e4, sel_true]
  clear e0 e1 e2 e3 e4
  have HS3 := aM' hI
  clear hI
  go_wp2
  have e7 : wrap64 ((es.length : Int) - 1) = (es.length : Int) - 1 := by have := H40.out; exact wrap64_id (by omega) (by omega)
  rw [e7]
  clear e7
  go_loopw [5, 6, 7] (fun v5 v6 v7 wr => ∃ (i : Nat) (p1 p2 j : Int), i ≤ es.length ∧ Aside0 ((p1, p2) = firstB r (es.drop i) (i : Int)) ∧ Aside0 (j = (i : Int) - 1) ∧ v5 = .int .i64 p1 ∧ v6 = .int .i64 p2 ∧ v7 = .int .i64 j ∧ Aside0 (TkS w wr r)) (fun _ _ v7 _ => (intOf v7 + 1).toNat)
  case atStart => exact ⟨es.length, (es.length : Int), 0, (es.length : Int) - 1, Nat.le_refl _, ⟨by rw [List.drop_length]; rfl⟩, ⟨rfl⟩, rfl, rfl, rfl, HS3⟩
  case round =>
   obtain ⟨i, p1, p2, j, hi, HP, HJ, rfl, rfl, rfl, HT⟩ := hrel
   cases i with
   | zero =>
    have b1 : decide (0 ≤ j) = false := decide_eq_false (by have := HJ.out; omega)
    have ra0 : wr.cell? ⟨w.heap.size, 0, none⟩ = some (.string r.f0) := blk_cell HT.out.h0 0
    have ra1 : wr.cell? ⟨w.heap.size, 1, none⟩ = some (.int .u64 r.f1.f0) := blk_cell HT.out.h0 1
    have ra2 : wr.cell? ⟨w.heap.size, 2, none⟩ = some (.int .u64 r.f1.f1) := blk_cell HT.out.h0 2
    have ra3 : wr.cell? ⟨w.heap.size, 3, none⟩ = some (.int .i64 r.f2) := blk_cell HT.out.h0 3
    obtain ⟨ka, hka⟩ := all_loop r es H40.out HOK.out es.length 0 (by omega)
    have hka := hka ka (Nat.le_refl _)
    have HPa := HP.out
    rw [List.drop_zero] at hka HPa
    go_wp2_with fail
    refine (verify_All.calls ka r.f0 r.f1.f0 r.f1.f1 r.f2 A c es p1 p2 _ (HK.out.below HT.out.hB) (Kd.C_below HR.out HT.out.hB) HC.out (by rw [HPa]; exact hka)).mono ?_
    rintro x w2 ⟨rfl, hb⟩
    go_wp2
    go_ret
    exact ⟨rfl, (HT.out.below hb).hB⟩
   | succ i =>
    have hlt : i < es.length := by omega
    obtain rfl : j = (i : Int) := by have := HJ.out; omega
    obtain ⟨ad, A6, c6, rfl, he0, hl6, hr6⟩ := entry_at HR.out i hlt
    have hoe := HOK.out es[i] (List.getElem_mem hlt)
    have HPE := aM' (List.drop_eq_getElem_cons hlt)
    have hpe : firstB r (es.drop i) (i : Int) = if checkI r es[i] = 0 then firstB r (es.drop (i + 1)) ((i + 1 : Nat) : Int) else ((i : Int), checkI r es[i]) := by rw [HPE.out]; rfl
    obtain ⟨e, he⟩ : ∃ e, e = es[i] := ⟨_, rfl⟩
    rw [← he] at he0 hl6 hr6 hoe hpe
    have HEn := aM' he0
    have HL6 := aM' hl6
    have HR6 := aM' hr6
    have HOE := aM' hoe
    have HPP := aM' hpe
    clear he0 hl6 hr6 hoe he hpe HPE
    have b1 : decide (0 ≤ (i : Int)) = true := decide_eq_true (by omega)
    have q1 : (0 ≤ (i : Int)) = True := eq_true (by omega)
    have q2 : ((i : Int) < (es.length : Int)) = True := eq_true (by omega)
    go_wp2
    refine region_inv (fun l a W => a = ({ tmps := #[.agg (rootA r), .slice (some ad) es.length c, .pointer (some ⟨w.heap.size, 0, none⟩), undef, u4, .int .i64 p1, .int .i64 p2, .int .i64 (i : Int), sel (l 6) (.int .i64 (checkI r e)) (u8), undef, undef, .agg #[.string r.f0, .int .u64 r.f1.f0, .int .u64 r.f1.f1, .int .i64 r.f2], .slice (some ad) es.length c, .bool false, .agg #[.string r.f0, .int .u64 r.f1.f0, .int .u64 r.f1.f1, .int .i64 r.f2], .int .i64 (mayRI r), .agg #[.string r.f0, .int .u64 r.f1.f0, .int .u64 r.f1.f1, .int .i64 r.f2], .int .i64 (mayRI r), .bool false, .slice (some ad) es.length c, .int .i64 (es.length : Int), .slice (some ad) es.length c, .int .i64 (es.length : Int), .int .i64 ((es.length : Int) - 1), .int .i64 (i : Int), .bool true, u26, u27, sel (l 0) (.agg #[.string r.f0, .int .u64 r.f1.f0, .int .u64 r.f1.f1, .int .i64 r.f2]) (u28), sel (l 1) (.slice (some ad) es.length c) (u29), sel (l 2) (.int .i64 (i : Int)) (u30), sel (l 3) (.pointer (some (ad.add (i * 7)))) (u31), sel (l 4) (.agg #[.bool e.f0.f0, .string e.f0.f1, .string e.f0.f2, .int .u64 e.f0.f3.f0, .int .u64 e.f0.f3.f1, .int .u64 e.f1.f0, .slice A6 e.f1.f1.length c6]) (u32), sel (l 5) (.int .i64 (checkI r e)) (u33), u34, u35, u36, u37, u38, u39, u40, u41, u42, u43, u44, u45, undef, undef, undef, undef, undef, undef, undef, undef, undef, undef, undef, undef, undef, undef], defers := [] } : Act) ∧ TkS w W r) 7 rfl rfl (by kernel_rfl) ?h0 ?hend ?hstep
    case h0 => exact ⟨rfl, HT.out.below (below_drew (Below.refl _ _))⟩
    case hstep =>
     refine rg_cons (rg_cons (rg_cons (rg_cons (rg_cons (rg_cons (rg_cons (rg_nil) ?s0) ?s1) ?s2) ?s3) ?s4) ?s5) ?s6
     case s0 =>
      refine rg_step rfl ?_
      rintro l a W ⟨rfl, hI⟩ hl hd
      clear hd
      have x0 := blk_cell (hI.h0) 0
      have x1 := blk_cell (hI.h0) 1
      have x2 := blk_cell (hI.h0) 2
      have x3 := blk_cell (hI.h0) 3
      simp at x0 x1 x2 x3
      refine rg_val (v := .agg #[.string r.f0, .int .u64 r.f1.f0, .int .u64 r.f1.f1, .int .i64 r.f2]) (w' := W) rfl (by go_simp) ?_
      refine ⟨?_, ?_⟩
      ·
       simp only [Act.put, List.setIfInBounds_toArray, List.set_cons_zero, List.set_cons_succ]; rfl
      ·
       exact hI
     case s1 =>
      refine rg_step rfl ?_
      rintro l a W ⟨rfl, hI⟩ hl hd
      clear hd
      refine rg_val (v := .slice (some ad) es.length c) (w' := W) rfl (by go_simp) ?_
      refine ⟨?_, ?_⟩
      ·
       simp only [Act.put, List.setIfInBounds_toArray, List.set_cons_zero, List.set_cons_succ]; rfl
      ·
       exact hI
     case s2 =>
      refine rg_step rfl ?_
      rintro l a W ⟨rfl, hI⟩ hl hd
      clear hd
      refine rg_val (v := .int .i64 (i : Int)) (w' := W) rfl (by go_simp) ?_
      refine ⟨?_, ?_⟩
      ·
       simp only [Act.put, List.setIfInBounds_toArray, List.set_cons_zero, List.set_cons_succ]; rfl
      ·
       exact hI
     case s3 =>
      refine rg_step rfl ?_
      rintro l a W ⟨rfl, hI⟩ hl hd
      have d1 := hd 1 (by decide)
      have d2 := hd 2 (by decide)
      clear hd
      refine rg_val (v := .pointer (some (ad.add (i * 7)))) (w' := W) rfl (by go_simp) ?_
      refine ⟨?_, ?_⟩
      ·
       simp only [Act.put, List.setIfInBounds_toArray, List.set_cons_zero, List.set_cons_succ]; rfl
      ·
       exact hI
     case s4 =>
      refine rg_step rfl ?_
      rintro l a W ⟨rfl, hI⟩ hl hd
      have d3 := hd 3 (by decide)
      clear hd
      have hh := HEn.out.below hI.hB
      have x0 := hh.c0
      have x1 := hh.c1
      have x2 := hh.c2
      have x3 := hh.c3
      have x4 := hh.c4
      have x5 := hh.c5
      have x6 := hh.c6
      clear hh
      refine rg_val (v := .agg #[.bool e.f0.f0, .string e.f0.f1, .string e.f0.f2, .int .u64 e.f0.f3.f0, .int .u64 e.f0.f3.f1, .int .u64 e.f1.f0, .slice A6 e.f1.f1.length c6]) (w' := W) rfl (by go_simp) ?_
      refine ⟨?_, ?_⟩
      ·
       simp only [Act.put, List.setIfInBounds_toArray, List.set_cons_zero, List.set_cons_succ]; rfl
      ·
       exact hI
     case s5 =>
      refine rg_step rfl ?_
      rintro l a W ⟨rfl, hI⟩ hl hd
      have d0 := hd 0 (by decide)
      have d4 := hd 4 (by decide)
      clear hd
      refine rg_call rfl (by go_simp; exact ⟨rfl, rfl⟩) ?_
      refine (refCheck.calls r e A6 c6 _ (HK.out.below hI.hB) (Kd.C_below HR6.out hI.hB) HL6.out HOE.out).mono ?_
      rintro x W' ⟨rfl, hb⟩
      refine ⟨_, rfl, ?_, ?_⟩
      ·
       simp only [Act.put, List.setIfInBounds_toArray, List.set_cons_zero, List.set_cons_succ]; rfl
      ·
       exact hI.below hb
     case s6 =>
      refine rg_step rfl ?_
      rintro l a W ⟨rfl, hI⟩ hl hd
      have d5 := hd 5 (by decide)
      clear hd
      refine rg_val (v := .int .i64 (checkI r e)) (w' := W) rfl (by go_simp) ?_
      refine ⟨?_, ?_⟩
      ·
       simp only [Act.put, List.setIfInBounds_toArray, List.set_cons_zero, List.set_cons_succ]; rfl
      ·
       exact hI
    case hend =>
     rintro l a W ⟨rfl, hI⟩ hall
     have e0 := hall 0 (by decide)
     have e1 := hall 1 (by decide)
     have e2 := hall 2 (by decide)
     have e3 := hall 3 (by decide)
     have e4 := hall 4 (by decide)
     have e5 := hall 5 (by decide)
     have e6 := hall 6 (by decide)
     clear hall
     simp only [e0, e1, e2, e3, e4, e5, e6, sel_true]
     clear e0 e1 e2 e3 e4 e5 e6
     have HT1 := aM' hI
     clear hI
     go_wp2
     refine region_inv (fun l a W => a = ({ tmps := #[.agg (rootA r), .slice (some ad) es.length c, .pointer (some ⟨w.heap.size, 0, none⟩), undef, u4, .int .i64 p1, .int .i64 p2, .int .i64 (i : Int), .int .i64 (checkI r e), undef, undef, .agg #[.string r.f0, .int .u64 r.f1.f0, .int .u64 r.f1.f1, .int .i64 r.f2], .slice (some ad) es.length c, .bool false, .agg #[.string r.f0, .int .u64 r.f1.f0, .int .u64 r.f1.f1, .int .i64 r.f2], .int .i64 (mayRI r), .agg #[.string r.f0, .int .u64 r.f1.f0, .int .u64 r.f1.f1, .int .i64 r.f2], .int .i64 (mayRI r), .bool false, .slice (some ad) es.length c, .int .i64 (es.length : Int), .slice (some ad) es.length c, .int .i64 (es.length : Int), .int .i64 ((es.length : Int) - 1), .int .i64 (i : Int), .bool true, u26, u27, .agg #[.string r.f0, .int .u64 r.f1.f0, .int .u64 r.f1.f1, .int .i64 r.f2], .slice (some ad) es.length c, .int .i64 (i : Int), .pointer (some (ad.add (i * 7))), .agg #[.bool e.f0.f0, .string e.f0.f1, .string e.f0.f2, .int .u64 e.f0.f3.f0, .int .u64 e.f0.f3.f1, .int .u64 e.f1.f0, .slice A6 e.f1.f1.length c6], .int .i64 (checkI r e), sel (l 0) (.agg #[.string r.f0, .int .u64 r.f1.f0, .int .u64 r.f1.f1, .int .i64 r.f2]) (u34), sel (l 1) (.slice (some ad) es.length c) (u35), sel (l 2) (.int .i64 (i : Int)) (u36), sel (l 3) (.pointer (some (ad.add (i * 7)))) (u37), sel (l 4) (.agg #[.bool e.f0.f0, .string e.f0.f1, .string e.f0.f2, .int .u64 e.f0.f3.f0, .int .u64 e.f0.f3.f1, .int .u64 e.f1.f0, .slice A6 e.f1.f1.length c6]) (u38), sel (l 5) (.int .i64 (checkI r e)) (u39), sel (l 6) (.int .i64 (checkI r e)) (u40), sel (l 7) (.bool false) (u41), u42, u43, u44, u45, undef, undef, undef, undef, undef, undef, undef, undef, undef, undef, undef, undef, undef, undef], defers := [] } : Act) ∧ TkS w W r) 8 rfl rfl (by kernel_rfl) ?h0 ?hend ?hstep
     case h0 => exact ⟨rfl, HT1.out.below (below_drew (Below.refl _ _))⟩
     case hstep =>
      refine rg_cons (rg_cons (rg_cons (rg_cons (rg_cons (rg_cons (rg_cons (rg_cons (rg_nil) ?s0) ?s1) ?s2) ?s3) ?s4) ?s5) ?s6) ?s7
      case s0 =>
       refine rg_step rfl ?_
       rintro l a W ⟨rfl, hI⟩ hl hd
       clear hd
       have x0 := blk_cell (hI.h0) 0
       have x1 := blk_cell (hI.h0) 1
       have x2 := blk_cell (hI.h0) 2
       have x3 := blk_cell (hI.h0) 3
       simp at x0 x1 x2 x3
       refine rg_val (v := .agg #[.string r.f0, .int .u64 r.f1.f0, .int .u64 r.f1.f1, .int .i64 r.f2]) (w' := W) rfl (by go_simp) ?_
       refine ⟨?_, ?_⟩
       ·
        simp only [Act.put, List.setIfInBounds_toArray, List.set_cons_zero, List.set_cons_succ]; rfl
       ·
        exact hI
      case s1 =>
       refine rg_step rfl ?_
       rintro l a W ⟨rfl, hI⟩ hl hd
       clear hd
       refine rg_val (v := .slice (some ad) es.length c) (w' := W) rfl (by go_simp) ?_
       refine ⟨?_, ?_⟩
       ·
        simp only [Act.put, List.setIfInBounds_toArray, List.set_cons_zero, List.set_cons_succ]; rfl
       ·
        exact hI
      case s2 =>
       refine rg_step rfl ?_
       rintro l a W ⟨rfl, hI⟩ hl hd
       clear hd
       refine rg_val (v := .int .i64 (i : Int)) (w' := W) rfl (by go_simp) ?_
       refine ⟨?_, ?_⟩
       ·
        simp only [Act.put, List.setIfInBounds_toArray, List.set_cons_zero, List.set_cons_succ]; rfl
       ·
        exact hI
      case s3 =>
       refine rg_step rfl ?_
       rintro l a W ⟨rfl, hI⟩ hl hd
       have d1 := hd 1 (by decide)
       have d2 := hd 2 (by decide)
       clear hd
       refine rg_val (v := .pointer (some (ad.add (i * 7)))) (w' := W) rfl (by go_simp) ?_
       refine ⟨?_, ?_⟩
       ·
        simp only [Act.put, List.setIfInBounds_toArray, List.set_cons_zero, List.set_cons_succ]; rfl
       ·
        exact hI
      case s4 =>
       refine rg_step rfl ?_
       rintro l a W ⟨rfl, hI⟩ hl hd
       have d3 := hd 3 (by decide)
       clear hd
       have hh := HEn.out.below hI.hB
       have x0 := hh.c0
       have x1 := hh.c1
       have x2 := hh.c2
       have x3 := hh.c3
       have x4 := hh.c4
       have x5 := hh.c5
       have x6 := hh.c6
       clear hh
       refine rg_val (v := .agg #[.bool e.f0.f0, .string e.f0.f1, .string e.f0.f2, .int .u64 e.f0.f3.f0, .int .u64 e.f0.f3.f1, .int .u64 e.f1.f0, .slice A6 e.f1.f1.length c6]) (w' := W) rfl (by go_simp) ?_
       refine ⟨?_, ?_⟩
       ·
        simp only [Act.put, List.setIfInBounds_toArray, List.set_cons_zero, List.set_cons_succ]; rfl
       ·
        exact hI
      case s5 =>
       refine rg_step rfl ?_
       rintro l a W ⟨rfl, hI⟩ hl hd
       have d0 := hd 0 (by decide)
       have d4 := hd 4 (by decide)
       clear hd
       refine rg_call rfl (by go_simp; exact ⟨rfl, rfl⟩) ?_
       refine (check.calls r e A6 c6 _ (HK.out.below hI.hB) (Kd.C_below HR6.out hI.hB) HL6.out HOE.out).mono ?_
       rintro x W' ⟨rfl, hb⟩
       refine ⟨_, rfl, ?_, ?_⟩
       ·
        simp only [Act.put, List.setIfInBounds_toArray, List.set_cons_zero, List.set_cons_succ]; rfl
       ·
        exact hI.below hb
      case s6 =>
       refine rg_step rfl ?_
       rintro l a W ⟨rfl, hI⟩ hl hd
       clear hd
       refine rg_val (v := .int .i64 (checkI r e)) (w' := W) rfl (by go_simp) ?_
       refine ⟨?_, ?_⟩
       ·
        simp only [Act.put, List.setIfInBounds_toArray, List.set_cons_zero, List.set_cons_succ]; rfl
       ·
        exact hI
      case s7 =>
       refine rg_step rfl ?_
       rintro l a W ⟨rfl, hI⟩ hl hd
       have d5 := hd 5 (by decide)
       have d6 := hd 6 (by decide)
       clear hd
       refine rg_val (v := .bool false) (w' := W) rfl (by go_simp) ?_
       refine ⟨?_, ?_⟩
       ·
        simp only [Act.put, List.setIfInBounds_toArray, List.set_cons_zero, List.set_cons_succ]; rfl
       ·
        exact hI
     case hend =>
      rintro l a W ⟨rfl, hI⟩ hall
      have e0 := hall 0 (by decide)
      have e1 := hall 1 (by decide)
      have e2 := hall 2 (by decide)
      have e3 := hall 3 (by decide)
      have e4 := hall 4 (by decide)
      have e5 := hall 5 (by decide)
      have e6 := hall 6 (by decide)
      have e7 := hall 7 (by decide)
      clear hall
      simp only [e0, e1, e2, e3, e4, e5, e6, e7, sel_true]
      clear e0 e1 e2 e3 e4 e5 e6 e7
      have HT2 := aM' hI
      clear hI
      have e8 : wrap64 ((i : Int) - 1) = (i : Int) - 1 := by have := H40.out; exact wrap64_id (by omega) (by omega)
      by_cases h0 : checkI r e = 0
      ·
       have m0 : (checkI r e != 0) = false := by simp [h0]
       go_wp2
       go_roundw
       case rel => exact ⟨i, p1, p2, (i : Int) - 1, by omega, ⟨by rw [HPP.out, if_pos h0]; exact HP.out⟩, ⟨rfl⟩, rfl, rfl, by first | rfl | rw [e8] | go_num, HT2⟩
       case measure => simp [intOf]; omega
      ·
       have m0 : (checkI r e != 0) = true := by simp [h0]
       go_wp2
       go_roundw
       case rel => exact ⟨i, (i : Int), checkI r e, (i : Int) - 1, by omega, ⟨by rw [HPP.out, if_neg h0]⟩, ⟨rfl⟩, rfl, rfl, by first | rfl | rw [e8] | go_num, HT2⟩
       case measure => simp [intOf]; omega
instance decWf (x : SEntry) : Decidable (wfEntry x) := by
 unfold wfEntry wfLeaf wfProof wfU128
 simp only [wfNode, wfU128]
 infer_instance
def paymasterlaw17_VerifyTells.f (a0_0 : ByteArray) (a0_1 a0_2 a0_3 : Int) (l1 : List SEntry) : Option Bool := if ∀ e ∈ l1, wfEntry e then some true else none
theorem paymasterlaw17_VerifyTells.calls (a0_0 : ByteArray) (a0_1 a0_2 a0_3 : Int) (A1 : Option Addr) (c1 : Nat) (l1 : List SEntry) (r : Bool) (w : World) (hK : LaidT w) (hr1 : Kd.C kEntry w A1 l1.length l1) (hc1 : l1.length ≤ c1) (h : paymasterlaw17_VerifyTells.f a0_0 a0_1 a0_2 a0_3 l1 = some r) :
  Calls Tryz.prog 3 #[.agg #[.string a0_0, .int .u64 a0_1, .int .u64 a0_2, .int .i64 a0_3], .slice A1 l1.length c1] w fun e w' => e = .returned (.bool r) ∧ Below w.heap.size w w' := by
 unfold paymasterlaw17_VerifyTells.f at h
 split at h
 ·
  rename_i hh
  cases h
  exact lawtells.calls ⟨a0_0, ⟨a0_1, a0_2⟩, a0_3⟩ l1 A1 c1 w hK hr1 hc1 hh
 ·
  cases h
end Go.Proofs.YtlmmpncdemblbaaGreatDoor.P
namespace Go.Proofs.YtlmmpncdemblbaaGreatDoor.P
open Go.RowKit Go.Proofs.YtlmmpncdemblbaaGreatDoorW.PrintWords Go.Proofs.YtlmmpncdemblbaaGreatDoorW.PrintLast Go.Proofs.YtlmmpncdemblbaaGreatDoorW.PrintMore
set_option linter.unusedVariables false
set_option linter.unusedSimpArgs false
set_option linter.unnecessarySimpa false
theorem pure_VerifyTells : ∀ (y0 : SRoot) (y1 : (List SEntry)), wfRoot y0 → (y1.length ≤ 140737488355328 ∧ ∀ q0 ∈ y1, wfEntry q0) → paymasterlaw17_VerifyTells.f y0.f0 y0.f1.f0 y0.f1.f1 y0.f2 y1 = some true := by
 intro r l _ hl
 unfold paymasterlaw17_VerifyTells.f
 rw [if_pos hl.2]
end Go.Proofs.YtlmmpncdemblbaaGreatDoor.P
namespace Go.Proofs.YtlmmpncdemblbaaGreatDoor.verifyTells
open Go.Proofs.YtlmmpncdemblbaaGreatDoor.P Go.ChangeShapes Go.WideShapes Go.ChangeAt Go.RowKit
open Go.ChangeMaps (open_string shut_string)
open Go.Proofs.YtlmmpncdemblbaaGreatDoorW.PrintWords Go.Proofs.YtlmmpncdemblbaaGreatDoorW.PrintLast Go.Proofs.YtlmmpncdemblbaaGreatDoorW.PrintMore
set_option linter.unusedVariables false
set_option linter.unusedSimpArgs false
theorem own : ownKnob Tryz.prog.godebug = none := by kernel_rfl
theorem laidOut : laidOutB Tryz.prog = true := by kernel_rfl
set_option maxRecDepth 100000 in
theorem lifted (os : Os) (started : os.Started) (H : Type) (enc : TypeId × Value → H) :
    ReturnsInHanded {} Tryz.checked os 3 .any (fun w args => (Rows.verifyTellsSpec.pre enc Tryz.prog Tryz.f3 [] false w args ∧ laidMetH Tryz.prog Rows.verifyTellsRow.laid w) ∧ sizedMet enc Tryz.prog Tryz.f3 (OpenSpec.ofChange Rows.verifyTellsSpec) false w args)
      (Rows.verifyTellsSpec.post enc Tryz.prog Tryz.f3 false true false false) := by
  refine returnsInHanded_of_change_and (C := Tryz.checked) (X := fun w _ => laidMetH Tryz.prog Rows.verifyTellsRow.laid w) (fun _ _ _ hh h => h.of_heap hh) own started (by kernel_rfl) Tryz.func3
    (ChangeSpec.witness_at (enc := enc) (C := Tryz.checked) (os := os) (X := fun w _ => laidMetH Tryz.prog Rows.verifyTellsRow.laid w) false (P.laidWorldT os) #[.agg #[.string ByteArray.empty, .int .u64 0, .int .u64 0, .int .i64 0], .slice none 0 0] 8 rfl (by kernel_rfl) (by kernel_rfl) (by kernel_rfl) (by kernel_rfl) (by kernel_rfl) (P.laidWorldT_met os _)) ?_
  intro W base args ds gs before hval0 hW _ hsz0 hL _
  have hval : ∀ (j : Nat) t v, Tryz.f3.params[j]? = some t → args[j]? = some v → Value.okWide Tryz.prog W .any base t v := hval0
  have hW' := hW
  obtain ⟨p, q, hA0, hV, rfl, hfz, hnd⟩ := hW
  have hA : DataW.TrodAll enc Tryz.prog W 0 (fun _ => true) true Tryz.f3.params.toList args.toList ds p := hA0
  rw [Tryz.params3] at hA hval
  obtain ⟨v0, vs0, d0, ds0, p0, q0, hargs, rfl, rfl, h0, r0⟩ := trodAll_cons hA
  obtain ⟨v1, vs1, d1, ds1, p1, q1, rfl, rfl, rfl, h1, r1⟩ := trodAll_cons r0
  obtain ⟨rfl, rfl, rfl⟩ := trodAll_nil r1
  obtain rfl : args = #[v0, v1] := by cases args; simp_all
  obtain ⟨rfl, rfl⟩ := trodVars_none hV
  have hz0 : Sized Tryz.prog 26 d0 := Sized.each hsz0 (j := 0) rfl rfl
  have hz1 : Sized Tryz.prog 27 d1 := Sized.each hsz0 (j := 1) rfl rfl
  have k0 := h0
  have lt0 : ∀ x ∈ p0, x.block < W.heap.size := by obtain ⟨m, hm⟩ := k0; exact DataW.trod_lt m _ _ _ hm
  obtain ⟨y0, cs0, rfl, hk0, w0⟩ := rdRoot.agg Tryz.underlying26 (hval 0 26 v0 rfl rfl) h0 hz0
  obtain ⟨cl0, rfl⟩ : ∃ l : List Value, cs0 = l.toArray := ⟨cs0.toList, by simp⟩
  simp only [List.toList_toArray] at hk0
  obtain rfl := kRoot_open hk0
  have k1 := h1
  have lt1 : ∀ x ∈ p1, x.block < W.heap.size := by obtain ⟨m, hm⟩ := k1; exact DataW.trod_lt m _ _ _ hm
  obtain ⟨a1, len1, cap1, rfl⟩ := okWide_slice Tryz.underlying27 (hval 1 27 v1 rfl rfl)
  obtain ⟨y1, hk1, w1⟩ := (Rd.slice Tryz.underlying27 (by kernel_rfl) (of_decide_eq_true (by kernel_rfl)) rdEntry).cell rfl h1 hz1
  obtain ⟨A1, c1, e1, l1, g1⟩ := hk1
  rw [List.cons.injEq] at e1
  obtain ⟨e1, -⟩ := e1
  injection e1 with ea1 el1 ec1
  subst ea1 el1 ec1
  clear hA0 hval0 hsz0
  have h := pure_VerifyTells y0 y1 w0 w1
  refine (paymasterlaw17_VerifyTells.calls y0.f0 y0.f1.f0 y0.f1.f1 y0.f2 _ _ y1 true W (P.laidT_of_met hL) g1 l1 h).mono fun e W' ⟨he, bel0⟩ => ?_
  have bel := bel0
  subst he
  exact ⟨_, rfl, _, _, _, [], _, [], hW', trodAll_mk1 (shut_bool Tryz.underlying4 _), (trodAll_cons_mk (Below.trod laidOut (by kernel_rfl) (of_decide_eq_true (by kernel_rfl)) k0 bel lt0) (trodAll_cons_mk (Below.trod laidOut (by kernel_rfl) (of_decide_eq_true (by kernel_rfl)) k1 bel lt1) trodAll_mk0)), rfl, bel.frame _, fun h => by cases h⟩
theorem over : Rows.verifyTellsRow.holds Tryz.pinned (OpenSpec.ofChange Rows.verifyTellsSpec) :=
  OpenClaim.holds_of_wide 3 Tryz.f3 rfl rfl rfl rfl rfl rfl rfl ⟨rfl, rfl, rfl, rfl, rfl⟩ rfl rfl rfl rfl rfl (by kernel_rfl) Tryz.func3 (by kernel_rfl)
    (of_decide_eq_true (by kernel_rfl)) (by unfold Func.isWrapper; first | (rw [if_pos (by decide +kernel)]; kernel_rfl) | (rw [if_neg (by decide +kernel)]; exact ⟨rfl, rfl⟩))
    (fun os started H enc _ => lifted os started H enc)
set_option maxRecDepth 100000 in
theorem proved : Rows.VerifyTellsCardSaid :=
  Claim7.holds_tied_plain_at .later [] [.data, .data, .pinned] true (true, "008eb3dcee44d0f83f0af0c3f28520cbbdadb93de6cda8a7e37baef7518404fb") false
    over (fun _ h => by cases h) (by kernel_rfl) (fun _ h => by cases h) verifyTells_row_tie rfl ⟨rfl, rfl⟩ (by kernel_rfl) rfl
    (fun f fn hf hfn => by
      obtain rfl : f = 3 := Option.some.inj ((show Tryz.prog.funcNamed "paymaster/paymasterlaw17.VerifyTells" = some 3 by kernel_rfl).symm.trans hf) |>.symm
      obtain rfl : fn = Tryz.f3 := (Option.some.inj (Tryz.func3.symm.trans hfn)).symm
      exact ⟨by kernel_rfl, fun j t ht => by
        rw [Tryz.params3] at ht
        have h3 : t ∈ [26, 27] := by
          have := List.mem_of_getElem? (l := [26, 27]) (i := j) (a := t) (by simpa using ht)
          exact this
        simp only [List.mem_cons, List.not_mem_nil, or_false] at h3
        rcases h3 with rfl | rfl
        · exact (show Tryz.prog.wantsStandIn 26 = false by kernel_rfl)
        · exact (show Tryz.prog.wantsStandIn 27 = false by kernel_rfl)
      ⟩)
    (by kernel_rfl)
#print axioms proved
end Go.Proofs.YtlmmpncdemblbaaGreatDoor.verifyTells
namespace Go.Proofs.YtlmmpncdemblbaaGreatDoor
/-- The row, under a short name, for the claim. -/
theorem verifyTells_holds : Rows.VerifyTellsCardSaid := verifyTells.proved
end Go.Proofs.YtlmmpncdemblbaaGreatDoor
