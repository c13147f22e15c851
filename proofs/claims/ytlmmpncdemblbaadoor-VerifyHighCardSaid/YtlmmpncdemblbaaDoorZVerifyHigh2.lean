/- PROVED HERE: the Go function paymasterlaw17.VerifyHigh returns true for every input that the given statement speaks of, and each argument reads behind the call as it read before. Conditions: none beyond the given statement's own (the laid table of constants, tied by the card). -/
-- Several texts of this workplace as one.
import Derived.Test.YtlmmpncdemblbaaDoorZVerifyHigh1
import Derived.Test.YtlmmpncdemblbaaDoorProg
import Derived.Deep.OwnRows
import Derived.Laws.Rows
import Derived.Test.YtlmmpncdemblbaaDoorRows
import Derived.Test.YtlmmpncdemblbaaDoorCards
import Derived.Test.YtlmmpncdemblbaaDoorTie
namespace Go.Proofs.YtlmmpncdemblbaaDoor.P
open Go.RowKit Go.Proofs.YtlmmpncdemblbaaDoorW.PrintWords Go.Proofs.YtlmmpncdemblbaaDoorW.PrintLast Go.Proofs.YtlmmpncdemblbaaDoorW.PrintMore
attribute [local go_sem] max2_int min2_int max_two min_two max_three min_three max_four min_four-- for this text's walks alone
set_option linter.unusedVariables false
set_option linter.unusedSimpArgs false
def tag_LeafNode.j0 : Nat → Int → Bool → Bool → ByteArray → ByteArray → Int → Int → Option (ByteArray × Int × Int)
 | 0, _, _, _, _, _, _, _ => none
 | k + 1, x0, x12, x145000, x145001, x145002, x145003, x145004 => if x12 = true then (some ((⟨#[]⟩ : ByteArray), 0, 0)) else ((tag_LeafText.f x145000 x145001 x145002 x145003 x145004).bind fun t148 => ((tag_Digest.f x0 t148).bind fun t149 => (some (t149, x145003, x145004))))
def tag_LeafNode.f (k : Nat) (a0 : Int) (a1_0 : Bool) (a1_1 : ByteArray) (a1_2 : ByteArray) (a1_3 : Int) (a1_4 : Int) : Option (ByteArray × Int × Int) := (tag_MayWidth.f a0).bind fun t146 => (if t146 = true then ((tag_MayLeaf.f a1_0 a1_1 a1_2 a1_3 a1_4).bind fun t147 => (tag_LeafNode.j0 k a0 (!t147) a1_0 a1_1 a1_2 a1_3 a1_4)) else (tag_LeafNode.j0 k a0 true a1_0 a1_1 a1_2 a1_3 a1_4))
def tag_LeafNode.T3 : Bool × List (List Nat × List Nat) := (true, [([], []), ([], []), ([1], [1]), ([0, 2, 2], [0, 2]), ([], []), ([4], [4]), ([3, 5], [3, 5]), ([6, 3, 0, 1, 2, 3, 4, 5, 6], [6])])
def tag_LeafNode.B3 : List Nat := [0, 0, 2, 7, 0, 16, 63, 127]
theorem tag_LeafNode.tab3 : rtab .any (opsOf Tryd.f59 3) = tag_LeafNode.T3 := by kernel_rfl
theorem tag_LeafNode.bits3 : waitsOk tag_LeafNode.T3.2 tag_LeafNode.B3 = true := by kernel_rfl
set_option maxHeartbeats 8000000 in
set_option maxRecDepth 100000 in
theorem tag_LeafNode.calls (k : Nat) (a0 : Int) (a1_0 : Bool) (a1_1 : ByteArray) (a1_2 : ByteArray) (a1_3 : Int) (a1_4 : Int) (r1 : ByteArray) (r2 : Int) (r3 : Int) (w : World) (hK : LaidT w) (h : tag_LeafNode.f k a0 a1_0 a1_1 a1_2 a1_3 a1_4 = some (r1, r2, r3)) :
  Calls Tryd.prog 59 #[.int .i64 a0, .agg #[.bool a1_0, .string a1_1, .string a1_2, .int .u64 a1_3, .int .u64 a1_4]] w fun e w' => e = .returned (.agg #[.string r1, .int .u64 r2, .int .u64 r3]) ∧ Below w.heap.size w w' := by
 have hu59 := Tryd.underlying59
 have hu26 := Tryd.underlying26
 have hu24 := Tryd.underlying24
 have HB := aM' (Below.refl w.heap.size w)
 have HLD := aM' hK
 clear hK
 have H : ((tag_MayWidth.f a0).bind fun t146 => (if t146 = true then ((tag_MayLeaf.f a1_0 a1_1 a1_2 a1_3 a1_4).bind fun t147 => (tag_LeafNode.j0 k a0 (!t147) a1_0 a1_1 a1_2 a1_3 a1_4)) else (tag_LeafNode.j0 k a0 true a1_0 a1_1 a1_2 a1_3 a1_4))) = some (r1, r2, r3) := h
 clear h
 have HC3 := aM' H
 clear H
 go_enter Tryd.func59, Tryd.ntmps59
 go_upto_region 1 with (first | ((with_reducible refine gate_dst (N := 3) rfl ?_); refine box_event ?hg (N := 3) ?hd (cs := #[.bool a1_0, .string a1_1, .string a1_2, .int .u64 a1_3, .int .u64 a1_4]) (t := 59) ?hr ?_; (case hd => rfl); (case hg => rfl); (case hr => first | (go_simp; done) | (go_simp; rfl)); intro gb144 hg w4 hbox hb; have n0_ := aM' (below_step (by repeat (first | (with_reducible first | exact HB.out | apply below_alloc | apply pw_below_drewN | apply below_drew1) | exact HB.out)) hb); have n1_ := aM' (hbox); have n2_ := aM' ((by rw [hg]; exact (below_size (by repeat (first | (with_reducible first | exact HB.out | apply below_alloc | apply pw_below_drewN | apply below_drew1) | exact HB.out))) : w.heap.size ≤ gb144)); have n3_ := aM' ((by rw [hg]; exact (below_size (by repeat (first | (with_reducible first | exact HB.out | apply below_alloc | apply pw_below_drewN | apply below_drew1) | exact HB.out))) : w.heap.size ≤ gb144)); clear HB; have HB := n0_; have BK144 := n1_; have GW144 := n2_; have GE144 := n3_; clear n0_ n1_ n2_ n3_; clear hb hbox hg) | ((with_reducible refine gate_dst (N := 4) rfl ?_); refine box_event ?hg (N := 4) ?hd (cs := #[.string (⟨#[]⟩ : ByteArray), .int .u64 0, .int .u64 0]) (t := 26) ?hr ?_; (case hd => rfl); (case hg => rfl); (case hr => first | (go_simp; done) | (go_simp; rfl)); intro gb145 hg w5 hbox hb; have n0_ := aM' (blk_below (g := gb144) (o := .cells #[.bool a1_0, .string a1_1, .string a1_2, .int .u64 a1_3, .int .u64 a1_4] 59 (0, 0)) (by (with_reducible repeat (first | refine blk_drewN ?_ _ | refine blk_drew ?_ | refine blk_alloc ?_ _)); exact BK144.out) hb); have n1_ := aM' (below_step (by repeat (first | (with_reducible first | exact HB.out | apply below_alloc | apply pw_below_drewN | apply below_drew1 | refine below_set ?_ GE144.out) | exact HB.out)) hb); have n2_ := aM' (hbox); have n3_ := aM' ((by rw [hg]; exact (below_size (by repeat (first | (with_reducible first | exact HB.out | apply below_alloc | apply pw_below_drewN | apply below_drew1 | refine below_set ?_ GE144.out) | exact HB.out))) : w.heap.size ≤ gb145)); have n4_ := aM' ((by rw [hg]; exact (below_size (by repeat (first | (with_reducible first | exact HB.out | apply below_alloc | apply pw_below_drewN | apply below_drew1 | refine below_set ?_ GE144.out) | exact HB.out))) : w.heap.size ≤ gb145)); have n5_ := aM' ((by rw [hg]; exact Nat.ne_of_lt (blk_lt (g := gb144) (o := .cells #[.bool a1_0, .string a1_1, .string a1_2, .int .u64 a1_3, .int .u64 a1_4] 59 (0, 0)) (by (with_reducible repeat (first | refine blk_drewN ?_ _ | refine blk_drew ?_ | refine blk_alloc ?_ _)); exact BK144.out)) : gb144 ≠ gb145)); have n6_ := aM' ((by rw [hg]; exact Nat.ne_of_gt (blk_lt (g := gb144) (o := .cells #[.bool a1_0, .string a1_1, .string a1_2, .int .u64 a1_3, .int .u64 a1_4] 59 (0, 0)) (by (with_reducible repeat (first | refine blk_drewN ?_ _ | refine blk_drew ?_ | refine blk_alloc ?_ _)); exact BK144.out)) : gb145 ≠ gb144)); clear BK144; clear HB; have BK144 := n0_; have HB := n1_; have BK145 := n2_; have GW145 := n3_; have GE145 := n4_; have NB144_145 := n5_; have NB145_144 := n6_; clear n0_ n1_ n2_ n3_ n4_ n5_ n6_; clear hb hbox hg))
 (try simp only [Act.put, List.setIfInBounds_toArray, List.set_cons_zero, List.set_cons_succ])
 go_cut [12] (fun v12 wc => ∃ (kq : Nat) (x12_2 : Bool), v12 = .bool x12_2 ∧ Aside0 (tag_LeafNode.j0 kq a0 x12_2 a1_0 a1_1 a1_2 a1_3 a1_4 = some (r1, r2, r3)) ∧ Aside0 (kq ≤ k) ∧ Aside0 (wc.heap[gb144]? = some (.cells #[.bool a1_0, .string a1_1, .string a1_2, .int .u64 a1_3, .int .u64 a1_4] 59 (0, 0))) ∧ Aside0 (wc.heap[gb145]? = some (.cells #[.string (⟨#[]⟩ : ByteArray), .int .u64 0, .int .u64 0] 26 (0, 0))) ∧ Aside0 (Below w.heap.size w wc))
 case first =>
  have H := HC3.out
  clear HC3
  replace H := Option.bind_eq_some_iff.mp H
  obtain ⟨t146, A60, H⟩ := H
  replace H : (if t146 = true then ((tag_MayLeaf.f a1_0 a1_1 a1_2 a1_3 a1_4).bind fun t147 => (tag_LeafNode.j0 k a0 (!t147) a1_0 a1_1 a1_2 a1_3 a1_4)) else (tag_LeafNode.j0 k a0 true a1_0 a1_1 a1_2 a1_3 a1_4)) = some (r1, r2, r3) := H
  have A6 := aM' A60
  clear A60
  by_cases c7 : t146 = true
  ·
   subst c7
   have H1 : ((tag_MayLeaf.f a1_0 a1_1 a1_2 a1_3 a1_4).bind fun t147 => (tag_LeafNode.j0 k a0 (!t147) a1_0 a1_1 a1_2 a1_3 a1_4)) = some (r1, r2, r3) := by rw [if_pos rfl] at H; exact H
   clear H
   have H := H1
   clear H1
   replace H := Option.bind_eq_some_iff.mp H
   obtain ⟨t147, A80, H⟩ := H
   replace H : (tag_LeafNode.j0 k a0 (!t147) a1_0 a1_1 a1_2 a1_3 a1_4) = some (r1, r2, r3) := H
   have A8 := aM' A80
   clear A80
   have H' := aM' H
   clear H
   go_wp2_with (first | ((with_reducible refine gate_callee (f := 74) rfl ?_); refine goesL_ (some 6) rfl rfl Tryd.func74 (by kernel_rfl) rfl #[.int .i64 a0] rfl (by (try simp only [List.map_toArray, List.map_cons, List.map_nil]); first | done | rfl | (simp only [List.length_drop, List.length_take]; rfl)) ?_; (with_reducible refine (tag_MayWidth.calls a0 true _ A6.out).mono ?_); rintro e w' ⟨rfl, ⟨nd, rfl⟩⟩; refine ⟨_, rfl, ?_⟩; have hnb9 := NB144_145.out; have hnc9 := NB145_144.out; have hcz10_0 : w5.cell? ⟨gb144, 0, none⟩ = some (.bool a1_0) := (blk_cell BK144.out 0).trans rfl; have hcz10_1 : w5.cell? ⟨gb144, 1, none⟩ = some (.string a1_1) := (blk_cell BK144.out 1).trans rfl; have hcz10_2 : w5.cell? ⟨gb144, 2, none⟩ = some (.string a1_2) := (blk_cell BK144.out 2).trans rfl; have hcz10_3 : w5.cell? ⟨gb144, 3, none⟩ = some (.int .u64 a1_3) := (blk_cell BK144.out 3).trans rfl; have hcz10_4 : w5.cell? ⟨gb144, 4, none⟩ = some (.int .u64 a1_4) := (blk_cell BK144.out 4).trans rfl; have hfz10_0 := blk_frozen BK144.out 0; have hfz10_1 := blk_frozen BK144.out 1; have hfz10_2 := blk_frozen BK144.out 2; have hfz10_3 := blk_frozen BK144.out 3; have hfz10_4 := blk_frozen BK144.out 4) | (go_at_call 78; (with_reducible refine (tag_MayLeaf.calls a1_0 a1_1 a1_2 a1_3 a1_4 t147 _ ?side1 A8.out).mono ?_); (case side1 => exact LaidT.below HLD.out (by repeat (first | (with_reducible first | exact HB.out | apply below_alloc | apply pw_below_drewN | apply below_drew1 | refine below_set ?_ GE144.out | refine below_set ?_ GE145.out) | exact HB.out))); rintro e w11 ⟨rfl, hb⟩; have n0_ := aM' (blk_below (g := gb144) (o := .cells #[.bool a1_0, .string a1_1, .string a1_2, .int .u64 a1_3, .int .u64 a1_4] 59 (0, 0)) (by (with_reducible repeat (first | refine blk_drewN ?_ _ | refine blk_drew ?_ | refine blk_alloc ?_ _)); exact BK144.out) hb); have n1_ := aM' (blk_below (g := gb145) (o := .cells #[.string (⟨#[]⟩ : ByteArray), .int .u64 0, .int .u64 0] 26 (0, 0)) (by (with_reducible repeat (first | refine blk_drewN ?_ _ | refine blk_drew ?_ | refine blk_alloc ?_ _)); exact BK145.out) hb); have n2_ := aM' (below_step (by repeat (first | (with_reducible first | exact HB.out | apply below_alloc | apply pw_below_drewN | apply below_drew1 | refine below_set ?_ GE144.out | refine below_set ?_ GE145.out) | exact HB.out)) hb); clear BK144; clear BK145; clear HB; have BK144 := n0_; have BK145 := n1_; have HB := n2_; clear n0_ n1_ n2_; (try clear hb); (try clear hb2); (try clear hk); (try clear hi)))
   go_meet
   case rel => exact ⟨_, (!t147), (by first | rfl | (simp; done) | (simp [*]; done)), H', ⟨by first | omega | exact Nat.le_refl _⟩, ⟨by (with_reducible repeat (first | refine blk_drewN ?_ _ | refine blk_drew ?_ | refine blk_alloc ?_ _)); exact BK144.out⟩, ⟨by (with_reducible repeat (first | refine blk_drewN ?_ _ | refine blk_drew ?_ | refine blk_alloc ?_ _)); exact BK145.out⟩, ⟨by repeat (first | (with_reducible first | exact HB.out | apply below_alloc | apply pw_below_drewN | apply below_drew1 | refine below_set ?_ GE144.out | refine below_set ?_ GE145.out) | exact HB.out)⟩⟩
  ·
   replace c7 := Bool.eq_false_iff.mpr c7
   subst c7
   have H1 : (tag_LeafNode.j0 k a0 true a1_0 a1_1 a1_2 a1_3 a1_4) = some (r1, r2, r3) := by rw [if_neg (show ¬ (false = true) by decide)] at H; exact H
   clear H
   have H := H1
   clear H1
   have H' := aM' H
   clear H
   go_wp2_with (first | ((with_reducible refine gate_callee (f := 74) rfl ?_); refine goesL_ (some 6) rfl rfl Tryd.func74 (by kernel_rfl) rfl #[.int .i64 a0] rfl (by (try simp only [List.map_toArray, List.map_cons, List.map_nil]); first | done | rfl | (simp only [List.length_drop, List.length_take]; rfl)) ?_; (with_reducible refine (tag_MayWidth.calls a0 false _ A6.out).mono ?_); rintro e w' ⟨rfl, ⟨nd, rfl⟩⟩; refine ⟨_, rfl, ?_⟩))
   go_meet
   case rel => exact ⟨_, (true), (by first | rfl | (simp; done) | (simp [*]; done)), H', ⟨by first | omega | exact Nat.le_refl _⟩, ⟨by (with_reducible repeat (first | refine blk_drewN ?_ _ | refine blk_drew ?_ | refine blk_alloc ?_ _)); exact BK144.out⟩, ⟨by (with_reducible repeat (first | refine blk_drewN ?_ _ | refine blk_drew ?_ | refine blk_alloc ?_ _)); exact BK145.out⟩, ⟨by repeat (first | (with_reducible first | exact HB.out | apply below_alloc | apply pw_below_drewN | apply below_drew1 | refine below_set ?_ GE144.out | refine below_set ?_ GE145.out) | exact HB.out)⟩⟩
 case rest =>
  clear HC3
  try clear p2
  try clear c5
  try clear c7
  try clear c9
  try clear hcz10_0
  try clear hcz10_1
  try clear hcz10_2
  try clear hcz10_3
  try clear hcz10_4
  try clear hfz10_0
  try clear hfz10_1
  try clear hfz10_2
  try clear hfz10_3
  try clear hfz10_4
  obtain ⟨kq, x12_2, rfl, HA, HJ2, BK144, BK145, HB⟩ := hcut
  cases kq with
  | zero => exact absurd HA.out (by simp [tag_LeafNode.j0])
  | succ kj2 =>
   have H := HA.out
   clear HA
   simp only [tag_LeafNode.j0] at H
   by_cases c12 : x12_2 = true
   ·
    subst c12
    have H1 : (some ((⟨#[]⟩ : ByteArray), 0, 0)) = some (r1, r2, r3) := by rw [if_pos rfl] at H; exact H
    clear H
    have H := H1
    clear H1
    simp only [Option.some.injEq, Prod.mk.injEq] at H
    obtain ⟨rfl, rfl, rfl⟩ := H
    have hnb13 := NB145_144.out
    have hnc13 := NB144_145.out
    have hcz14_0 : wc.cell? ⟨gb145, 0, none⟩ = some (.string (⟨#[]⟩ : ByteArray)) := (blk_cell BK145.out 0).trans rfl
    have hcz14_1 : wc.cell? ⟨gb145, 1, none⟩ = some (.int .u64 0) := (blk_cell BK145.out 1).trans rfl
    have hcz14_2 : wc.cell? ⟨gb145, 2, none⟩ = some (.int .u64 0) := (blk_cell BK145.out 2).trans rfl
    have hfz14_0 := blk_frozen BK145.out 0
    have hfz14_1 := blk_frozen BK145.out 1
    have hfz14_2 := blk_frozen BK145.out 2
    go_wp2
    refine bodyPost_ret (results_cell_row rfl _ _ gb145 26 #[.string (⟨#[]⟩ : ByteArray), .int .u64 0, .int .u64 0] (0, 0) _ rfl (by (with_reducible repeat (first | refine blk_drewN ?_ _ | refine blk_drew ?_ | refine blk_alloc ?_ _)); refine blk_put (cs := #[.string (⟨#[]⟩ : ByteArray), .int .u64 0, .int .u64 0]) ?_ 2 _ rfl; (with_reducible repeat (first | refine blk_drewN ?_ _ | refine blk_drew ?_ | refine blk_alloc ?_ _)); refine blk_put (cs := #[.string (⟨#[]⟩ : ByteArray), .int .u64 0, .int .u64 0]) ?_ 1 _ rfl; (with_reducible repeat (first | refine blk_drewN ?_ _ | refine blk_drew ?_ | refine blk_alloc ?_ _)); refine blk_put (cs := #[.string (⟨#[]⟩ : ByteArray), .int .u64 0, .int .u64 0]) ?_ 0 _ rfl; (with_reducible repeat (first | refine blk_drewN ?_ _ | refine blk_drew ?_ | refine blk_alloc ?_ _)); exact BK145.out) Tryd.underlying26 rfl (by kernel_rfl)) rfl ?_
    exact ⟨by first | rfl | (simp [errW_none, errW_some] <;> rfl) | (simp [*, errW_none, errW_some] <;> rfl), by repeat (first | (with_reducible first | exact HB.out | apply below_alloc | apply pw_below_drewN | apply below_drew1 | refine below_set ?_ GE144.out | refine below_set ?_ GE145.out) | exact HB.out)⟩
   ·
    replace c12 := Bool.eq_false_iff.mpr c12
    subst c12
    have H1 : ((tag_LeafText.f a1_0 a1_1 a1_2 a1_3 a1_4).bind fun t148 => ((tag_Digest.f a0 t148).bind fun t149 => (some (t149, a1_3, a1_4)))) = some (r1, r2, r3) := by rw [if_neg (show ¬ (false = true) by decide)] at H; exact H
    clear H
    have H := H1
    clear H1
    replace H := Option.bind_eq_some_iff.mp H
    obtain ⟨t148, A150, H⟩ := H
    replace H : ((tag_Digest.f a0 t148).bind fun t149 => (some (t149, a1_3, a1_4))) = some (r1, r2, r3) := H
    have A15 := aM' A150
    clear A150
    replace H := Option.bind_eq_some_iff.mp H
    obtain ⟨t149, A160, H⟩ := H
    replace H : (some (t149, a1_3, a1_4)) = some (r1, r2, r3) := H
    have A16 := aM' A160
    clear A160
    simp only [Option.some.injEq, Prod.mk.injEq] at H
    obtain ⟨rfl, rfl, rfl⟩ := H
    try go_wp2
    have n0_ := aM' (blk_drew BK144.out)
    have n1_ := aM' (blk_drew BK145.out)
    have n2_ := aM' (below_drew1 HB.out)
    clear BK144
    clear BK145
    clear HB
    have BK144 := n0_
    have BK145 := n1_
    have HB := n2_
    clear n0_ n1_ n2_
    refine start_ (n := 8) (S := fun w' => w'.cell? ⟨gb144, 0, none⟩ = some (.bool a1_0) ∧ w'.cell? ⟨gb144, 1, none⟩ = some (.string a1_1) ∧ w'.cell? ⟨gb144, 2, none⟩ = some (.string a1_2) ∧ w'.cell? ⟨gb144, 3, none⟩ = some (.int .u64 a1_3) ∧ w'.cell? ⟨gb144, 4, none⟩ = some (.int .u64 a1_4)) (ds := []) #[false, false, false, false, false, false, false, false] (by kernel_rfl) rfl rfl ⟨(blk_cell BK144.out 0).trans rfl, (blk_cell BK144.out 1).trans rfl, (blk_cell BK144.out 2).trans rfl, (blk_cell BK144.out 3).trans rfl, (blk_cell BK144.out 4).trans rfl⟩ (fun hHeld => ?_); refine with_tabW tag_LeafNode.tab3 tag_LeafNode.bits3 (fun HT_ HW_ => ?_)
    generalize wc.drew = w17 at BK144 BK145 HB hHeld ⊢
    refine pure_ (i := 0) (N := some 14) (v := ?_) (a' := ?_) #[true, false, false, false, false, false, false, false] rfl rfl (any_of HT_.out (by kernel_rfl)) (fun _ _ _ h => h) (Or.inl ⟨by rfl, ?_⟩) ?_ ?_
    rotate_left
    ·
     intro w'
     go_simp
     with_reducible rfl
    rotate_left
    ·
     simp only [Act.put, List.setIfInBounds_toArray, List.set_cons_zero, List.set_cons_succ, i64_w, i32_w]
     rfl
    refine pure_ (i := 4) (N := some 18) (v := ?_) (a' := ?_) #[true, false, false, false, true, false, false, false] rfl rfl (any_of HT_.out (by kernel_rfl)) (fun _ _ _ h => h) (Or.inl ⟨by rfl, ?_⟩) ?_ ?_
    rotate_left
    ·
     intro w'
     go_simp
     with_reducible rfl
    rotate_left
    ·
     simp only [Act.put, List.setIfInBounds_toArray, List.set_cons_zero, List.set_cons_succ, i64_w, i32_w]
     rfl
    refine take_ (i := 1) (N := some 15) (v := ?_) (a' := ?_) #[true, true, false, false, true, false, false, false] rfl rfl (take_ofW HT_.out HW_.out (by kernel_rfl)) (fun _ _ _ h => h) (Or.inl ⟨by rfl, ?_⟩) hHeld ?_ ?_
    rotate_left
    ·
     rintro w' ⟨s0, s1, s2, s3, s4⟩
     go_simp
     with_reducible rfl
    rotate_left
    ·
     simp only [Act.put, List.setIfInBounds_toArray, List.set_cons_zero, List.set_cons_succ, i64_w, i32_w]
     rfl
    refine take_ (i := 5) (N := some 19) (v := ?_) (a' := ?_) #[true, true, false, false, true, true, false, false] rfl rfl (take_ofW HT_.out HW_.out (by kernel_rfl)) (fun _ _ _ h => h) (Or.inl ⟨by rfl, ?_⟩) hHeld ?_ ?_
    rotate_left
    ·
     rintro w' ⟨s0, s1, s2, s3, s4⟩
     go_simp
     with_reducible rfl
    rotate_left
    ·
     simp only [Act.put, List.setIfInBounds_toArray, List.set_cons_zero, List.set_cons_succ, i64_w, i32_w]
     rfl
    refine one_ (i := 2) (N := some 16) #[true, true, true, false, true, true, false, false] rfl rfl (one_of HT_.out (by kernel_rfl)) (by decide) (fun K hK => ?_)
    refine goes_ Tryd.func87 (by kernel_rfl) rfl #[.agg #[.bool a1_0, .string a1_1, .string a1_2, .int .u64 a1_3, .int .u64 a1_4]] (by rfl) rfl rfl (by (try simp only [List.map_toArray, List.map_cons, List.map_nil]); first | done | rfl | (simp only [List.length_drop, List.length_take]; rfl)) ?_
    with_reducible refine (tag_LeafText.calls a1_0 a1_1 a1_2 a1_3 a1_4 t148 _ ?side1 A15.out).mono ?_
    (case side1 => exact LaidT.below HLD.out (by repeat (first | (with_reducible first | exact HB.out | apply below_alloc | apply pw_below_drewN | apply below_drew1 | refine below_set ?_ GE144.out | refine below_set ?_ GE145.out) | exact HB.out)))
    rintro e w18 ⟨rfl, hb⟩
    refine ⟨_, rfl, ?_⟩
    have n0_ := aM' (blk_below (g := gb144) (o := .cells #[.bool a1_0, .string a1_1, .string a1_2, .int .u64 a1_3, .int .u64 a1_4] 59 (0, 0)) (by (with_reducible repeat (first | refine blk_drewN ?_ _ | refine blk_drew ?_ | refine blk_alloc ?_ _)); exact BK144.out) hb)
    have n1_ := aM' (blk_below (g := gb145) (o := .cells #[.string (⟨#[]⟩ : ByteArray), .int .u64 0, .int .u64 0] 26 (0, 0)) (by (with_reducible repeat (first | refine blk_drewN ?_ _ | refine blk_drew ?_ | refine blk_alloc ?_ _)); exact BK145.out) hb)
    have n2_ := aM' (below_step (by repeat (first | (with_reducible first | exact HB.out | apply below_alloc | apply pw_below_drewN | apply below_drew1 | refine below_set ?_ GE144.out | refine below_set ?_ GE145.out) | exact HB.out)) hb)
    clear BK144
    clear BK145
    clear HB
    have BK144 := n0_
    have BK145 := n1_
    have HB := n2_
    clear n0_ n1_ n2_
    (try clear hb)
    (try clear hb2)
    (try clear hk)
    (try clear hi)
    refine hK.out _ _ ⟨(blk_cell BK144.out 0).trans rfl, (blk_cell BK144.out 1).trans rfl, (blk_cell BK144.out 2).trans rfl, (blk_cell BK144.out 3).trans rfl, (blk_cell BK144.out 4).trans rfl⟩ (fun hHeld => ?_)
    clear hK K
    refine norm_ (a' := ?_) ?_ ?_
    rotate_left
    ·
     show Act.put _ (some 16) _ = _
     simp only [Act.put, List.setIfInBounds_toArray, List.set_cons_zero, List.set_cons_succ, i64_w, i32_w]
     rfl
    refine one_ (i := 3) (N := some 17) #[true, true, true, true, true, true, false, false] rfl rfl (one_of HT_.out (by kernel_rfl)) (by decide) (fun K hK => ?_)
    refine goes_ Tryd.func43 (by kernel_rfl) rfl #[.int .i64 a0, .string t148] (by rfl) rfl rfl (by (try simp only [List.map_toArray, List.map_cons, List.map_nil]); first | done | rfl | (simp only [List.length_drop, List.length_take]; rfl)) ?_
    with_reducible refine (tag_Digest.calls a0 t148 t149 _ ?side1 A16.out).mono ?_
    (case side1 => exact Laid.below HLD.out.1 (by repeat (first | (with_reducible first | exact HB.out | apply below_alloc | apply pw_below_drewN | apply below_drew1 | refine below_set ?_ GE144.out | refine below_set ?_ GE145.out) | exact HB.out)))
    rintro e w19 ⟨rfl, hb⟩
    refine ⟨_, rfl, ?_⟩
    have n0_ := aM' (blk_below (g := gb144) (o := .cells #[.bool a1_0, .string a1_1, .string a1_2, .int .u64 a1_3, .int .u64 a1_4] 59 (0, 0)) (by (with_reducible repeat (first | refine blk_drewN ?_ _ | refine blk_drew ?_ | refine blk_alloc ?_ _)); exact BK144.out) hb)
    have n1_ := aM' (blk_below (g := gb145) (o := .cells #[.string (⟨#[]⟩ : ByteArray), .int .u64 0, .int .u64 0] 26 (0, 0)) (by (with_reducible repeat (first | refine blk_drewN ?_ _ | refine blk_drew ?_ | refine blk_alloc ?_ _)); exact BK145.out) hb)
    have n2_ := aM' (below_step (by repeat (first | (with_reducible first | exact HB.out | apply below_alloc | apply pw_below_drewN | apply below_drew1 | refine below_set ?_ GE144.out | refine below_set ?_ GE145.out) | exact HB.out)) hb)
    clear BK144
    clear BK145
    clear HB
    have BK144 := n0_
    have BK145 := n1_
    have HB := n2_
    clear n0_ n1_ n2_
    (try clear hb)
    (try clear hb2)
    (try clear hk)
    (try clear hi)
    refine hK.out _ _ ⟨(blk_cell BK144.out 0).trans rfl, (blk_cell BK144.out 1).trans rfl, (blk_cell BK144.out 2).trans rfl, (blk_cell BK144.out 3).trans rfl, (blk_cell BK144.out 4).trans rfl⟩ (fun hHeld => ?_)
    clear hK K
    refine norm_ (a' := ?_) ?_ ?_
    rotate_left
    ·
     show Act.put _ (some 17) _ = _
     simp only [Act.put, List.setIfInBounds_toArray, List.set_cons_zero, List.set_cons_succ, i64_w, i32_w]
     rfl
    refine pure_ (i := 6) (N := some 20) (v := ?_) (a' := ?_) #[true, true, true, true, true, true, true, false] rfl rfl (any_of HT_.out (by kernel_rfl)) (fun _ _ _ h => h) (Or.inl ⟨by rfl, ?_⟩) ?_ ?_
    rotate_left
    ·
     intro w'
     go_simp
     with_reducible rfl
    rotate_left
    ·
     simp only [Act.put, List.setIfInBounds_toArray, List.set_cons_zero, List.set_cons_succ, i64_w, i32_w]
     rfl
    refine one_ (i := 7) (N := none) #[true, true, true, true, true, true, true, true] rfl rfl (one_of HT_.out (by kernel_rfl)) (by decide) (fun K hK => ?_)
    have hs20 : w19.cell? ⟨gb145, 0, none⟩ = some (.string (⟨#[]⟩ : ByteArray)) := (blk_cell BK145.out 0).trans rfl
    have hfs20 := blk_frozen BK145.out 0
    have hns20_0 := NB144_145.out
    have hms20_0 := NB145_144.out
    have hs21 : w19.cell? ⟨gb145, 1, none⟩ = some (.int .u64 0) := (blk_cell BK145.out 1).trans rfl
    have hfs21 := blk_frozen BK145.out 1
    have hns21_0 := NB144_145.out
    have hms21_0 := NB145_144.out
    have hs22 : w19.cell? ⟨gb145, 2, none⟩ = some (.int .u64 0) := (blk_cell BK145.out 2).trans rfl
    have hfs22 := blk_frozen BK145.out 2
    have hns22_0 := NB144_145.out
    have hms22_0 := NB145_144.out
    refine skip_ (w1 := ?_) (by rfl) rfl ?_ ?_
    rotate_left
    ·
     go_simp
     rfl
    refine hK.out _ _ ⟨((cell_far (p := ⟨gb145, _, none⟩) NB144_145.out _).trans (((cell_far (p := ⟨gb145, _, none⟩) NB144_145.out _).trans (((cell_far (p := ⟨gb145, _, none⟩) NB144_145.out _).trans (hHeld.1)))))), ((cell_far (p := ⟨gb145, _, none⟩) NB144_145.out _).trans (((cell_far (p := ⟨gb145, _, none⟩) NB144_145.out _).trans (((cell_far (p := ⟨gb145, _, none⟩) NB144_145.out _).trans (hHeld.2.1)))))), ((cell_far (p := ⟨gb145, _, none⟩) NB144_145.out _).trans (((cell_far (p := ⟨gb145, _, none⟩) NB144_145.out _).trans (((cell_far (p := ⟨gb145, _, none⟩) NB144_145.out _).trans (hHeld.2.2.1)))))), ((cell_far (p := ⟨gb145, _, none⟩) NB144_145.out _).trans (((cell_far (p := ⟨gb145, _, none⟩) NB144_145.out _).trans (((cell_far (p := ⟨gb145, _, none⟩) NB144_145.out _).trans (hHeld.2.2.2.1)))))), ((cell_far (p := ⟨gb145, _, none⟩) NB144_145.out _).trans (((cell_far (p := ⟨gb145, _, none⟩) NB144_145.out _).trans (((cell_far (p := ⟨gb145, _, none⟩) NB144_145.out _).trans (hHeld.2.2.2.2))))))⟩ (fun hHeld => ?_)
    clear hK K
    refine done_ (done_of HT_.out (by kernel_rfl)) ?_
    try go_wp2
    refine bodyPost_ret (results_cell_row rfl _ _ gb145 26 #[.string t149, .int .u64 a1_3, .int .u64 a1_4] (0, 0) _ rfl (by (with_reducible repeat (first | refine blk_drewN ?_ _ | refine blk_drew ?_ | refine blk_alloc ?_ _)); refine blk_put (cs := #[.string t149, .int .u64 a1_3, .int .u64 0]) ?_ 2 _ rfl; (with_reducible repeat (first | refine blk_drewN ?_ _ | refine blk_drew ?_ | refine blk_alloc ?_ _)); refine blk_put (cs := #[.string t149, .int .u64 0, .int .u64 0]) ?_ 1 _ rfl; (with_reducible repeat (first | refine blk_drewN ?_ _ | refine blk_drew ?_ | refine blk_alloc ?_ _)); refine blk_put (cs := #[.string (⟨#[]⟩ : ByteArray), .int .u64 0, .int .u64 0]) ?_ 0 _ rfl; (with_reducible repeat (first | refine blk_drewN ?_ _ | refine blk_drew ?_ | refine blk_alloc ?_ _)); exact BK145.out) Tryd.underlying26 rfl (by kernel_rfl)) rfl ?_
    exact ⟨by first | rfl | (simp [errW_none, errW_some] <;> rfl) | (simp [*, errW_none, errW_some] <;> rfl), by repeat (first | (with_reducible first | exact HB.out | apply below_alloc | apply pw_below_drewN | apply below_drew1 | refine below_set ?_ GE144.out | refine below_set ?_ GE145.out) | exact HB.out)⟩
end Go.Proofs.YtlmmpncdemblbaaDoor.P
namespace Go.Proofs.YtlmmpncdemblbaaDoor.P
open Go.RowKit Go.Proofs.YtlmmpncdemblbaaDoorW.PrintWords Go.Proofs.YtlmmpncdemblbaaDoorW.PrintLast Go.Proofs.YtlmmpncdemblbaaDoorW.PrintMore
set_option linter.unusedVariables false
set_option linter.unusedSimpArgs false
set_option linter.unnecessarySimpa false
attribute [local go_sem] sel_true
def nodeText (l r : SNode) : ByteArray := (⟨#[1]⟩ : ByteArray) ++ l.f0 ++ u128B l.f1.f0 l.f1.f1 ++ r.f0 ++ u128B r.f1.f0 r.f1.f1
theorem nodeText_size (l r : SNode) : (nodeText l r).size = 33 + l.f0.size + r.f0.size := by
 simp only [nodeText, ByteArray.size_append, u128B_size]
 show 1 + _ + _ + _ + _ = _
 omega
structure NtS (w W : World) (l r : SNode) : Prop where
 hB : Below w.heap.size w W
 h0 : W.heap[w.heap.size]? = some (.cells #[.string l.f0, .int .u64 l.f1.f0, .int .u64 l.f1.f1] 26 (0, 0))
 h1 : W.heap[w.heap.size + 1]? = some (.cells #[.string r.f0, .int .u64 r.f1.f0, .int .u64 r.f1.f1] 26 (0, 0))
theorem NtS.below {w W W' : World} {l r : SNode} (h : NtS w W l r) (hb : Below W.heap.size W W') : NtS w W' l r := ⟨h.hB.trans (hb.mono h.hB.size), blk_below h.h0 hb, blk_below h.h1 hb⟩
set_option maxRecDepth 100000 in
set_option maxHeartbeats 2000000 in
theorem nodeText.calls (l r : SNode) (hl : l.f0.size ≤ 1000000) (hr : r.f0.size ≤ 1000000) (w : World) :
  Calls Tryd.prog 44 #[.agg #[.string l.f0, .int .u64 l.f1.f0, .int .u64 l.f1.f1], .agg #[.string r.f0, .int .u64 r.f1.f0, .int .u64 r.f1.f1]] w fun e w' => e = .returned (.string (nodeText l r)) ∧ Below w.heap.size w w' := by
 have HL := aM' hl
 have HR := aM' hr
 have HT := aM' (show nodeText l r = (⟨#[1]⟩ : ByteArray) ++ l.f0 ++ u128B l.f1.f0 l.f1.f1 ++ r.f0 ++ u128B r.f1.f0 r.f1.f1 from rfl)
 have hz1 : ByteArray.size (⟨#[1]⟩ : ByteArray) = 1 := rfl
 have HZ := aM' hz1
 clear hl hr hz1
 obtain ⟨bl, hbl⟩ : ∃ b, b = u128B l.f1.f0 l.f1.f1 := ⟨_, rfl⟩
 obtain ⟨br, hbr⟩ : ∃ b, b = u128B r.f1.f0 r.f1.f1 := ⟨_, rfl⟩
 have HBl := aM' (show bl.size = 16 by rw [hbl, u128B_size])
 have HBr := aM' (show br.size = 16 by rw [hbr, u128B_size])
 have HFl := aM' (show u128_Bytes.f l.f1.f0 l.f1.f1 = some bl by rw [hbl]; exact u128Bytes_eq _ _)
 have HFr := aM' (show u128_Bytes.f r.f1.f0 r.f1.f1 = some br by rw [hbr]; exact u128Bytes_eq _ _)
 rw [← hbl, ← hbr] at HT
 clear hbl hbr
 go_enter Tryd.func44, Tryd.ntmps44
 go_wp2
 have HS := aM' (show NtS w ((w.alloc (.cells #[.string l.f0, .int .u64 l.f1.f0, .int .u64 l.f1.f1] 26)).alloc (.cells #[.string r.f0, .int .u64 r.f1.f0, .int .u64 r.f1.f1] 26)) l r from
  ⟨below_alloc (below_alloc (Below.refl _ _) _) _, blk_alloc (blk_new w _) _, by have := blk_new (w.alloc (.cells #[.string l.f0, .int .u64 l.f1.f0, .int .u64 l.f1.f1] 26)) (.cells #[.string r.f0, .int .u64 r.f1.f0, .int .u64 r.f1.f1] 26); rwa [World.size_alloc] at this⟩)
 refine region_inv (fun l_ a W => ∃ γ : Nat, a = ({ tmps := #[.agg #[.string l.f0, .int .u64 l.f1.f0, .int .u64 l.f1.f1], .agg #[.string r.f0, .int .u64 r.f1.f0, .int .u64 r.f1.f1], .pointer (some ⟨w.heap.size, 0, none⟩), .pointer (some ⟨w.heap.size + 1, 0, none⟩), sel (l_ 16) (.string ((⟨#[1]⟩ : ByteArray) ++ l.f0 ++ bl ++ r.f0 ++ br)) (.string ⟨#[]⟩), sel (l_ 0) (.slice (some ⟨γ, 0, none⟩) 1 1) (undef), sel (l_ 1) (.string (⟨#[1]⟩ : ByteArray)) (undef), sel (l_ 2) (.pointer (some ⟨w.heap.size, 0, none⟩)) (undef), sel (l_ 3) (.string l.f0) (undef), sel (l_ 4) (.string ((⟨#[1]⟩ : ByteArray) ++ l.f0)) (undef), sel (l_ 5) (.pointer (some ⟨w.heap.size, 1, none⟩)) (undef), sel (l_ 6) (.agg #[.int .u64 l.f1.f0, .int .u64 l.f1.f1]) (undef), sel (l_ 7) (.string bl) (undef), sel (l_ 8) (.string ((⟨#[1]⟩ : ByteArray) ++ l.f0 ++ bl)) (undef), sel (l_ 9) (.pointer (some ⟨w.heap.size + 1, 0, none⟩)) (undef), sel (l_ 10) (.string r.f0) (undef), sel (l_ 11) (.string ((⟨#[1]⟩ : ByteArray) ++ l.f0 ++ bl ++ r.f0)) (undef), sel (l_ 12) (.pointer (some ⟨w.heap.size + 1, 1, none⟩)) (undef), sel (l_ 13) (.agg #[.int .u64 r.f1.f0, .int .u64 r.f1.f1]) (undef), sel (l_ 14) (.string br) (undef), sel (l_ 15) (.string ((⟨#[1]⟩ : ByteArray) ++ l.f0 ++ bl ++ r.f0 ++ br)) (undef)], defers := [] } : Act) ∧ (NtS w W l r ∧ (l_ 0 = true → W.heap[γ]? = some (.cells #[.int .u8 1] 5 (0, 0))))) 17 rfl rfl (by kernel_rfl) ?h0 ?hend ?hstep
 case h0 => exact ⟨0, rfl, HS.out.below (below_drew (Below.refl _ _)), fun h => by cases h⟩
 case hstep =>
  refine rg_cons (rg_cons (rg_cons (rg_cons (rg_cons (rg_cons (rg_cons (rg_cons (rg_cons (rg_cons (rg_cons (rg_cons (rg_cons (rg_cons (rg_cons (rg_cons (rg_cons (rg_nil) ?s0) ?s1) ?s2) ?s3) ?s4) ?s5) ?s6) ?s7) ?s8) ?s9) ?s10) ?s11) ?s12) ?s13) ?s14) ?s15) ?s16
  case s0 =>
   refine rg_step rfl ?_
   rintro l_ a W ⟨γ, rfl, hI⟩ hl hd
   clear hd
   refine rg_val (v := .slice (some ⟨W.heap.size, 0, none⟩) 1 1) (w' := W.alloc (.cells #[.int .u8 1] 5)) rfl (by go_simp) ?_
   refine ⟨W.heap.size, ?_, ?_⟩
   ·
    simp only [Act.put, List.setIfInBounds_toArray, List.set_cons_zero, List.set_cons_succ]; rfl
   ·
    exact ⟨hI.1.below (below_alloc (Below.refl _ _) _), fun _ => blk_new W _⟩
  case s1 =>
   refine rg_step rfl ?_
   rintro l_ a W ⟨γ, rfl, hI⟩ hl hd
   have d0 := hd 0 (by decide)
   clear hd
   have y0 := blk_cell (hI.2 d0) 0
   simp at y0
   refine rg_val (v := .string (⟨#[1]⟩ : ByteArray)) (w' := W) rfl ?_ ?_
   ·
    have hcv := run_convert_bytes_arg (P := Tryd.prog) (w := W) 56 5 Tryd.underlying56 Tryd.underlying5 γ 0 1 1 [1] rfl (fun i hi => by obtain rfl : i = 0 := (by omega); exact y0) 9 Tryd.underlying9
    rw [show strOfNums [1] = (⟨#[1]⟩ : ByteArray) from rfl] at hcv
    go_simp
   refine ⟨γ, ?_, ?_⟩
   ·
    simp only [Act.put, List.setIfInBounds_toArray, List.set_cons_zero, List.set_cons_succ]; rfl
   ·
    exact hI
  case s2 =>
   refine rg_step rfl ?_
   rintro l_ a W ⟨γ, rfl, hI⟩ hl hd
   clear hd
   refine rg_val (v := .pointer (some ⟨w.heap.size, 0, none⟩)) (w' := W) rfl (by go_simp) ?_
   refine ⟨γ, ?_, ?_⟩
   ·
    simp only [Act.put, List.setIfInBounds_toArray, List.set_cons_zero, List.set_cons_succ]; rfl
   ·
    exact hI
  case s3 =>
   refine rg_step rfl ?_
   rintro l_ a W ⟨γ, rfl, hI⟩ hl hd
   have d2 := hd 2 (by decide)
   clear hd
   have x0 := blk_cell (hI.1.h0) 0
   simp at x0
   refine rg_val (v := .string l.f0) (w' := W) rfl (by go_simp) ?_
   refine ⟨γ, ?_, ?_⟩
   ·
    simp only [Act.put, List.setIfInBounds_toArray, List.set_cons_zero, List.set_cons_succ]; rfl
   ·
    exact hI
  case s4 =>
   refine rg_step rfl ?_
   rintro l_ a W ⟨γ, rfl, hI⟩ hl hd
   have d1 := hd 1 (by decide)
   have d3 := hd 3 (by decide)
   clear hd
   refine rg_val (v := .string ((⟨#[1]⟩ : ByteArray) ++ l.f0)) (w' := W) rfl (by go_simp; have := HL.out; have := HR.out; have := HBl.out; have := HBr.out; omega) ?_
   refine ⟨γ, ?_, ?_⟩
   ·
    simp only [Act.put, List.setIfInBounds_toArray, List.set_cons_zero, List.set_cons_succ]; rfl
   ·
    exact hI
  case s5 =>
   refine rg_step rfl ?_
   rintro l_ a W ⟨γ, rfl, hI⟩ hl hd
   clear hd
   refine rg_val (v := .pointer (some ⟨w.heap.size, 1, none⟩)) (w' := W) rfl (by go_simp) ?_
   refine ⟨γ, ?_, ?_⟩
   ·
    simp only [Act.put, List.setIfInBounds_toArray, List.set_cons_zero, List.set_cons_succ]; rfl
   ·
    exact hI
  case s6 =>
   refine rg_step rfl ?_
   rintro l_ a W ⟨γ, rfl, hI⟩ hl hd
   have d5 := hd 5 (by decide)
   clear hd
   have x1 := blk_cell (hI.1.h0) 1
   have x2 := blk_cell (hI.1.h0) 2
   simp at x1 x2
   refine rg_val (v := .agg #[.int .u64 l.f1.f0, .int .u64 l.f1.f1]) (w' := W) rfl (by go_simp) ?_
   refine ⟨γ, ?_, ?_⟩
   ·
    simp only [Act.put, List.setIfInBounds_toArray, List.set_cons_zero, List.set_cons_succ]; rfl
   ·
    exact hI
  case s7 =>
   refine rg_step rfl ?_
   rintro l_ a W ⟨γ, rfl, hI⟩ hl hd
   have d6 := hd 6 (by decide)
   clear hd
   refine rg_call rfl (by go_simp; exact ⟨rfl, rfl⟩) ?_
   refine (u128_Bytes.calls _ _ _ _ HFl.out).mono ?_
   rintro x W' ⟨rfl, hb⟩
   refine ⟨_, rfl, γ, ?_, ?_⟩
   ·
    simp only [Act.put, List.setIfInBounds_toArray, List.set_cons_zero, List.set_cons_succ]; rfl
   ·
    exact ⟨hI.1.below hb, fun h => blk_below (hI.2 h) hb⟩
  case s8 =>
   refine rg_step rfl ?_
   rintro l_ a W ⟨γ, rfl, hI⟩ hl hd
   have d4 := hd 4 (by decide)
   have d7 := hd 7 (by decide)
   clear hd
   refine rg_val (v := .string ((⟨#[1]⟩ : ByteArray) ++ l.f0 ++ bl)) (w' := W) rfl (by go_simp; have := HL.out; have := HR.out; have := HBl.out; have := HBr.out; omega) ?_
   refine ⟨γ, ?_, ?_⟩
   ·
    simp only [Act.put, List.setIfInBounds_toArray, List.set_cons_zero, List.set_cons_succ]; rfl
   ·
    exact hI
  case s9 =>
   refine rg_step rfl ?_
   rintro l_ a W ⟨γ, rfl, hI⟩ hl hd
   clear hd
   refine rg_val (v := .pointer (some ⟨w.heap.size + 1, 0, none⟩)) (w' := W) rfl (by go_simp) ?_
   refine ⟨γ, ?_, ?_⟩
   ·
    simp only [Act.put, List.setIfInBounds_toArray, List.set_cons_zero, List.set_cons_succ]; rfl
   ·
    exact hI
  case s10 =>
   refine rg_step rfl ?_
   rintro l_ a W ⟨γ, rfl, hI⟩ hl hd
   have d9 := hd 9 (by decide)
   clear hd
   have x0 := blk_cell (hI.1.h1) 0
   simp at x0
   refine rg_val (v := .string r.f0) (w' := W) rfl (by go_simp) ?_
   refine ⟨γ, ?_, ?_⟩
   ·
    simp only [Act.put, List.setIfInBounds_toArray, List.set_cons_zero, List.set_cons_succ]; rfl
   ·
    exact hI
  case s11 =>
   refine rg_step rfl ?_
   rintro l_ a W ⟨γ, rfl, hI⟩ hl hd
   have d8 := hd 8 (by decide)
   have d10 := hd 10 (by decide)
   clear hd
   refine rg_val (v := .string ((⟨#[1]⟩ : ByteArray) ++ l.f0 ++ bl ++ r.f0)) (w' := W) rfl (by go_simp; have := HL.out; have := HR.out; have := HBl.out; have := HBr.out; omega) ?_
   refine ⟨γ, ?_, ?_⟩
   ·
    simp only [Act.put, List.setIfInBounds_toArray, List.set_cons_zero, List.set_cons_succ]; rfl
   ·
    exact hI
  case s12 =>
   refine rg_step rfl ?_
   rintro l_ a W ⟨γ, rfl, hI⟩ hl hd
   clear hd
   refine rg_val (v := .pointer (some ⟨w.heap.size + 1, 1, none⟩)) (w' := W) rfl (by go_simp) ?_
   refine ⟨γ, ?_, ?_⟩
   ·
    simp only [Act.put, List.setIfInBounds_toArray, List.set_cons_zero, List.set_cons_succ]; rfl
   ·
    exact hI
  case s13 =>
   refine rg_step rfl ?_
   rintro l_ a W ⟨γ, rfl, hI⟩ hl hd
   have d12 := hd 12 (by decide)
   clear hd
   have x1 := blk_cell (hI.1.h1) 1
   have x2 := blk_cell (hI.1.h1) 2
   simp at x1 x2
   refine rg_val (v := .agg #[.int .u64 r.f1.f0, .int .u64 r.f1.f1]) (w' := W) rfl (by go_simp) ?_
   refine ⟨γ, ?_, ?_⟩
   ·
    simp only [Act.put, List.setIfInBounds_toArray, List.set_cons_zero, List.set_cons_succ]; rfl
   ·
    exact hI
  case s14 =>
   refine rg_step rfl ?_
   rintro l_ a W ⟨γ, rfl, hI⟩ hl hd
   have d13 := hd 13 (by decide)
   clear hd
   refine rg_call rfl (by go_simp; exact ⟨rfl, rfl⟩) ?_
   refine (u128_Bytes.calls _ _ _ _ HFr.out).mono ?_
   rintro x W' ⟨rfl, hb⟩
   refine ⟨_, rfl, γ, ?_, ?_⟩
   ·
    simp only [Act.put, List.setIfInBounds_toArray, List.set_cons_zero, List.set_cons_succ]; rfl
   ·
    exact ⟨hI.1.below hb, fun h => blk_below (hI.2 h) hb⟩
  case s15 =>
   refine rg_step rfl ?_
   rintro l_ a W ⟨γ, rfl, hI⟩ hl hd
   have d11 := hd 11 (by decide)
   have d14 := hd 14 (by decide)
   clear hd
   refine rg_val (v := .string ((⟨#[1]⟩ : ByteArray) ++ l.f0 ++ bl ++ r.f0 ++ br)) (w' := W) rfl (by go_simp; have := HL.out; have := HR.out; have := HBl.out; have := HBr.out; omega) ?_
   refine ⟨γ, ?_, ?_⟩
   ·
    simp only [Act.put, List.setIfInBounds_toArray, List.set_cons_zero, List.set_cons_succ]; rfl
   ·
    exact hI
  case s16 =>
   refine rg_step rfl ?_
   rintro l_ a W ⟨γ, rfl, hI⟩ hl hd
   have d15 := hd 15 (by decide)
   clear hd
   refine rg_val (v := .string ((⟨#[1]⟩ : ByteArray) ++ l.f0 ++ bl ++ r.f0 ++ br)) (w' := W) rfl (by go_simp) ?_
   refine ⟨γ, ?_, ?_⟩
   ·
    simp only [Act.put, List.setIfInBounds_toArray, List.set_cons_zero, List.set_cons_succ]; rfl
   ·
    exact hI
 case hend =>
  rintro l_ a W ⟨γ, rfl, hI⟩ hall
  have e0 := hall 0 (by decide)
  have e1 := hall 1 (by decide)
  have e2 := hall 2 (by decide)
  have e3 := hall 3 (by decide)
  have e4 := hall 4 (by decide)
  have e5 := hall 5 (by decide)
  have e6 := hall 6 (by decide)
  have e7 := hall 7 (by decide)
  have e8 := hall 8 (by decide)
  have e9 := hall 9 (by decide)
  have e10 := hall 10 (by decide)
  have e11 := hall 11 (by decide)
  have e12 := hall 12 (by decide)
  have e13 := hall 13 (by decide)
  have e14 := hall 14 (by decide)
  have e15 := hall 15 (by decide)
  have e16 := hall 16 (by decide)
  clear hall
  simp only [e0, e1, e2, e3, e4, e5, e6, e7, e8, e9, e10, e11, e12, e13, e14, e15, e16, sel_true]
  clear e0 e1 e2 e3 e4 e5 e6 e7 e8 e9 e10 e11 e12 e13 e14 e15 e16
  have HI := aM' hI.1
  clear hI
  go_wp2
  go_ret
  exact ⟨by rw [HT.out]; rfl, HI.out.hB⟩
def tag_NodeText.f (a0 : ByteArray) (a1 a2 : Int) (b0 : ByteArray) (b1 b2 : Int) : Option ByteArray := if a0.size ≤ 1000000 ∧ b0.size ≤ 1000000 then some (nodeText ⟨a0, ⟨a1, a2⟩⟩ ⟨b0, ⟨b1, b2⟩⟩) else none
theorem tag_NodeText.calls (a0 : ByteArray) (a1 a2 : Int) (b0 : ByteArray) (b1 b2 : Int) (r : ByteArray) (w : World) (h : tag_NodeText.f a0 a1 a2 b0 b1 b2 = some r) :
  Calls Tryd.prog 44 #[.agg #[.string a0, .int .u64 a1, .int .u64 a2], .agg #[.string b0, .int .u64 b1, .int .u64 b2]] w fun e w' => e = .returned (.string r) ∧ Below w.heap.size w w' := by
 unfold tag_NodeText.f at h
 split at h
 ·
  rename_i hh
  obtain rfl := Option.some.inj h
  exact nodeText.calls ⟨a0, ⟨a1, a2⟩⟩ ⟨b0, ⟨b1, b2⟩⟩ hh.1 hh.2 w
 ·
  cases h
end Go.Proofs.YtlmmpncdemblbaaDoor.P
namespace Go.Proofs.YtlmmpncdemblbaaDoor.P
open Go.RowKit Go.Proofs.YtlmmpncdemblbaaDoorW.PrintWords Go.Proofs.YtlmmpncdemblbaaDoorW.PrintLast Go.Proofs.YtlmmpncdemblbaaDoorW.PrintMore
attribute [local go_sem] max2_int min2_int max_two min_two max_three min_three max_four min_four-- for this text's walks alone
set_option linter.unusedVariables false
set_option linter.unusedSimpArgs false
def node_Join.j0 : Nat → Int → Bool → ByteArray → Int → Int → ByteArray → Int → Int → Option (ByteArray × Int × Int × Int)
 | 0, _, _, _, _, _, _, _, _ => none
 | k + 1, x0, x19, x171000, x171001, x171002, x172000, x172001, x172002 => if x19 = true then (some ((⟨#[]⟩ : ByteArray), 0, 0, 70)) else ((u128_Add.f x171001 x171002 x172001 x172002).bind fun bt175 => (if bt175.2.2 = 0 then ((tag_NodeText.f x171000 x171001 x171002 x172000 x172001 x172002).bind fun t179 => ((tag_Digest.f x0 t179).bind fun t180 => (some (t180, bt175.1, bt175.2.1, 0)))) else (some ((⟨#[]⟩ : ByteArray), 0, 0, 10))))
def node_Join.f (k : Nat) (a0 : Int) (a1_0 : ByteArray) (a1_1 : Int) (a1_2 : Int) (a2_0 : ByteArray) (a2_1 : Int) (a2_2 : Int) : Option (ByteArray × Int × Int × Int) := (node_Of.f a0 a1_0 a1_1 a1_2).bind fun t173 => (if t173 = true then ((node_Of.f a0 a2_0 a2_1 a2_2).bind fun t174 => (node_Join.j0 k a0 (!t174) a1_0 a1_1 a1_2 a2_0 a2_1 a2_2)) else (node_Join.j0 k a0 true a1_0 a1_1 a1_2 a2_0 a2_1 a2_2))
def node_Join.T6 : Bool × List (List Nat × List Nat) := (true, [([], []), ([], []), ([], []), ([1, 2], [1, 2]), ([0, 3, 3], [0, 3]), ([], []), ([4, 5], [4, 5]), ([6, 4, 0, 1, 2, 3, 4, 5, 6], [6]), ([7, 0, 1, 2, 3, 4, 5, 6, 7], [])])
def node_Join.B6 : List Nat := [0, 0, 0, 6, 15, 0, 63, 127, 255]
theorem node_Join.tab6 : rtab .any (opsOf Tryd.f22 6) = node_Join.T6 := by kernel_rfl
theorem node_Join.bits6 : waitsOk node_Join.T6.2 node_Join.B6 = true := by kernel_rfl
set_option maxHeartbeats 8000000 in
set_option maxRecDepth 100000 in
theorem node_Join.calls (k : Nat) (a0 : Int) (a1_0 : ByteArray) (a1_1 : Int) (a1_2 : Int) (a2_0 : ByteArray) (a2_1 : Int) (a2_2 : Int) (r1 : ByteArray) (r2 : Int) (r3 : Int) (r4 : Int) (w : World) (hK : Laid w) (h : node_Join.f k a0 a1_0 a1_1 a1_2 a2_0 a2_1 a2_2 = some (r1, r2, r3, r4)) :
  Calls Tryd.prog 22 #[.int .i64 a0, .agg #[.string a1_0, .int .u64 a1_1, .int .u64 a1_2], .agg #[.string a2_0, .int .u64 a2_1, .int .u64 a2_2]] w fun e w' => e = .returned (.tuple #[.agg #[.string r1, .int .u64 r2, .int .u64 r3], .int .i64 r4]) ∧ Below w.heap.size w w' := by
 have hu26 := Tryd.underlying26
 have hu24 := Tryd.underlying24
 have HB := aM' (Below.refl w.heap.size w)
 have HLD := aM' hK
 clear hK
 have H : ((node_Of.f a0 a1_0 a1_1 a1_2).bind fun t173 => (if t173 = true then ((node_Of.f a0 a2_0 a2_1 a2_2).bind fun t174 => (node_Join.j0 k a0 (!t174) a1_0 a1_1 a1_2 a2_0 a2_1 a2_2)) else (node_Join.j0 k a0 true a1_0 a1_1 a1_2 a2_0 a2_1 a2_2))) = some (r1, r2, r3, r4) := h
 clear h
 have HC4 := aM' H
 clear H
 go_enter Tryd.func22, Tryd.ntmps22
 go_upto_region 1 with (first | ((with_reducible refine gate_dst (N := 4) rfl ?_); refine box_event ?hg (N := 4) ?hd (cs := #[.string a1_0, .int .u64 a1_1, .int .u64 a1_2]) (t := 26) ?hr ?_; (case hd => rfl); (case hg => rfl); (case hr => first | (go_simp; done) | (go_simp; rfl)); intro gb170 hg w5 hbox hb; have n0_ := aM' (below_step (by repeat (first | (with_reducible first | exact HB.out | apply below_alloc | apply pw_below_drewN | apply below_drew1) | exact HB.out)) hb); have n1_ := aM' (hbox); have n2_ := aM' ((by rw [hg]; exact (below_size (by repeat (first | (with_reducible first | exact HB.out | apply below_alloc | apply pw_below_drewN | apply below_drew1) | exact HB.out))) : w.heap.size ≤ gb170)); have n3_ := aM' ((by rw [hg]; exact (below_size (by repeat (first | (with_reducible first | exact HB.out | apply below_alloc | apply pw_below_drewN | apply below_drew1) | exact HB.out))) : w.heap.size ≤ gb170)); clear HB; have HB := n0_; have BK170 := n1_; have GW170 := n2_; have GE170 := n3_; clear n0_ n1_ n2_ n3_; clear hb hbox hg) | ((with_reducible refine gate_dst (N := 5) rfl ?_); refine box_event ?hg (N := 5) ?hd (cs := #[.string a2_0, .int .u64 a2_1, .int .u64 a2_2]) (t := 26) ?hr ?_; (case hd => rfl); (case hg => rfl); (case hr => first | (go_simp; done) | (go_simp; rfl)); intro gb171 hg w6 hbox hb; have n0_ := aM' (blk_below (g := gb170) (o := .cells #[.string a1_0, .int .u64 a1_1, .int .u64 a1_2] 26 (0, 0)) (by (with_reducible repeat (first | refine blk_drewN ?_ _ | refine blk_drew ?_ | refine blk_alloc ?_ _)); exact BK170.out) hb); have n1_ := aM' (below_step (by repeat (first | (with_reducible first | exact HB.out | apply below_alloc | apply pw_below_drewN | apply below_drew1 | refine below_set ?_ GE170.out) | exact HB.out)) hb); have n2_ := aM' (hbox); have n3_ := aM' ((by rw [hg]; exact (below_size (by repeat (first | (with_reducible first | exact HB.out | apply below_alloc | apply pw_below_drewN | apply below_drew1 | refine below_set ?_ GE170.out) | exact HB.out))) : w.heap.size ≤ gb171)); have n4_ := aM' ((by rw [hg]; exact (below_size (by repeat (first | (with_reducible first | exact HB.out | apply below_alloc | apply pw_below_drewN | apply below_drew1 | refine below_set ?_ GE170.out) | exact HB.out))) : w.heap.size ≤ gb171)); have n5_ := aM' ((by rw [hg]; exact Nat.ne_of_lt (blk_lt (g := gb170) (o := .cells #[.string a1_0, .int .u64 a1_1, .int .u64 a1_2] 26 (0, 0)) (by (with_reducible repeat (first | refine blk_drewN ?_ _ | refine blk_drew ?_ | refine blk_alloc ?_ _)); exact BK170.out)) : gb170 ≠ gb171)); have n6_ := aM' ((by rw [hg]; exact Nat.ne_of_gt (blk_lt (g := gb170) (o := .cells #[.string a1_0, .int .u64 a1_1, .int .u64 a1_2] 26 (0, 0)) (by (with_reducible repeat (first | refine blk_drewN ?_ _ | refine blk_drew ?_ | refine blk_alloc ?_ _)); exact BK170.out)) : gb171 ≠ gb170)); clear BK170; clear HB; have BK170 := n0_; have HB := n1_; have BK171 := n2_; have GW171 := n3_; have GE171 := n4_; have NB170_171 := n5_; have NB171_170 := n6_; clear n0_ n1_ n2_ n3_ n4_ n5_ n6_; clear hb hbox hg) | ((with_reducible refine gate_dst (N := 6) rfl ?_); refine box_event ?hg (N := 6) ?hd (cs := #[.string (⟨#[]⟩ : ByteArray), .int .u64 0, .int .u64 0]) (t := 26) ?hr ?_; (case hd => rfl); (case hg => rfl); (case hr => first | (go_simp; done) | (go_simp; rfl)); intro gb172 hg w7 hbox hb; have n0_ := aM' (blk_below (g := gb170) (o := .cells #[.string a1_0, .int .u64 a1_1, .int .u64 a1_2] 26 (0, 0)) (by (with_reducible repeat (first | refine blk_drewN ?_ _ | refine blk_drew ?_ | refine blk_alloc ?_ _)); exact BK170.out) hb); have n1_ := aM' (blk_below (g := gb171) (o := .cells #[.string a2_0, .int .u64 a2_1, .int .u64 a2_2] 26 (0, 0)) (by (with_reducible repeat (first | refine blk_drewN ?_ _ | refine blk_drew ?_ | refine blk_alloc ?_ _)); exact BK171.out) hb); have n2_ := aM' (below_step (by repeat (first | (with_reducible first | exact HB.out | apply below_alloc | apply pw_below_drewN | apply below_drew1 | refine below_set ?_ GE170.out | refine below_set ?_ GE171.out) | exact HB.out)) hb); have n3_ := aM' (hbox); have n4_ := aM' ((by rw [hg]; exact (below_size (by repeat (first | (with_reducible first | exact HB.out | apply below_alloc | apply pw_below_drewN | apply below_drew1 | refine below_set ?_ GE170.out | refine below_set ?_ GE171.out) | exact HB.out))) : w.heap.size ≤ gb172)); have n5_ := aM' ((by rw [hg]; exact (below_size (by repeat (first | (with_reducible first | exact HB.out | apply below_alloc | apply pw_below_drewN | apply below_drew1 | refine below_set ?_ GE170.out | refine below_set ?_ GE171.out) | exact HB.out))) : w.heap.size ≤ gb172)); have n6_ := aM' ((by rw [hg]; exact Nat.ne_of_lt (blk_lt (g := gb170) (o := .cells #[.string a1_0, .int .u64 a1_1, .int .u64 a1_2] 26 (0, 0)) (by (with_reducible repeat (first | refine blk_drewN ?_ _ | refine blk_drew ?_ | refine blk_alloc ?_ _)); exact BK170.out)) : gb170 ≠ gb172)); have n7_ := aM' ((by rw [hg]; exact Nat.ne_of_gt (blk_lt (g := gb170) (o := .cells #[.string a1_0, .int .u64 a1_1, .int .u64 a1_2] 26 (0, 0)) (by (with_reducible repeat (first | refine blk_drewN ?_ _ | refine blk_drew ?_ | refine blk_alloc ?_ _)); exact BK170.out)) : gb172 ≠ gb170)); have n8_ := aM' ((by rw [hg]; exact Nat.ne_of_lt (blk_lt (g := gb171) (o := .cells #[.string a2_0, .int .u64 a2_1, .int .u64 a2_2] 26 (0, 0)) (by (with_reducible repeat (first | refine blk_drewN ?_ _ | refine blk_drew ?_ | refine blk_alloc ?_ _)); exact BK171.out)) : gb171 ≠ gb172)); have n9_ := aM' ((by rw [hg]; exact Nat.ne_of_gt (blk_lt (g := gb171) (o := .cells #[.string a2_0, .int .u64 a2_1, .int .u64 a2_2] 26 (0, 0)) (by (with_reducible repeat (first | refine blk_drewN ?_ _ | refine blk_drew ?_ | refine blk_alloc ?_ _)); exact BK171.out)) : gb172 ≠ gb171)); clear BK170; clear BK171; clear HB; have BK170 := n0_; have BK171 := n1_; have HB := n2_; have BK172 := n3_; have GW172 := n4_; have GE172 := n5_; have NB170_172 := n6_; have NB172_170 := n7_; have NB171_172 := n8_; have NB172_171 := n9_; clear n0_ n1_ n2_ n3_ n4_ n5_ n6_ n7_ n8_ n9_; clear hb hbox hg))
 (try simp only [Act.put, List.setIfInBounds_toArray, List.set_cons_zero, List.set_cons_succ])
 go_cut [19] (fun v19 wc => ∃ (kq : Nat) (x19_3 : Bool), v19 = .bool x19_3 ∧ Aside0 (node_Join.j0 kq a0 x19_3 a1_0 a1_1 a1_2 a2_0 a2_1 a2_2 = some (r1, r2, r3, r4)) ∧ Aside0 (kq ≤ k) ∧ Aside0 (wc.heap[gb170]? = some (.cells #[.string a1_0, .int .u64 a1_1, .int .u64 a1_2] 26 (0, 0))) ∧ Aside0 (wc.heap[gb171]? = some (.cells #[.string a2_0, .int .u64 a2_1, .int .u64 a2_2] 26 (0, 0))) ∧ Aside0 (wc.heap[gb172]? = some (.cells #[.string (⟨#[]⟩ : ByteArray), .int .u64 0, .int .u64 0] 26 (0, 0))) ∧ Aside0 (Below w.heap.size w wc))
 case first =>
  have H := HC4.out
  clear HC4
  replace H := Option.bind_eq_some_iff.mp H
  obtain ⟨t173, A80, H⟩ := H
  replace H : (if t173 = true then ((node_Of.f a0 a2_0 a2_1 a2_2).bind fun t174 => (node_Join.j0 k a0 (!t174) a1_0 a1_1 a1_2 a2_0 a2_1 a2_2)) else (node_Join.j0 k a0 true a1_0 a1_1 a1_2 a2_0 a2_1 a2_2)) = some (r1, r2, r3, r4) := H
  have A8 := aM' A80
  clear A80
  by_cases c9 : t173 = true
  ·
   subst c9
   have H1 : ((node_Of.f a0 a2_0 a2_1 a2_2).bind fun t174 => (node_Join.j0 k a0 (!t174) a1_0 a1_1 a1_2 a2_0 a2_1 a2_2)) = some (r1, r2, r3, r4) := by rw [if_pos rfl] at H; exact H
   clear H
   have H := H1
   clear H1
   replace H := Option.bind_eq_some_iff.mp H
   obtain ⟨t174, A100, H⟩ := H
   replace H : (node_Join.j0 k a0 (!t174) a1_0 a1_1 a1_2 a2_0 a2_1 a2_2) = some (r1, r2, r3, r4) := H
   have A10 := aM' A100
   clear A100
   have H' := aM' H
   clear H
   have hnb11 := NB170_171.out
   have hnc11 := NB171_170.out
   have hnb12 := NB170_172.out
   have hnc12 := NB172_170.out
   have hcz13_0 : w7.cell? ⟨gb170, 0, none⟩ = some (.string a1_0) := (blk_cell BK170.out 0).trans rfl
   have hcz13_1 : w7.cell? ⟨gb170, 1, none⟩ = some (.int .u64 a1_1) := (blk_cell BK170.out 1).trans rfl
   have hcz13_2 : w7.cell? ⟨gb170, 2, none⟩ = some (.int .u64 a1_2) := (blk_cell BK170.out 2).trans rfl
   have hfz13_0 := blk_frozen BK170.out 0
   have hfz13_1 := blk_frozen BK170.out 1
   have hfz13_2 := blk_frozen BK170.out 2
   go_wp2_with (first | ((with_reducible refine gate_callee (f := 21) rfl ?_); refine goesL_ (some 12) rfl rfl Tryd.func21 (by kernel_rfl) rfl #[.int .i64 a0, .agg #[.string a1_0, .int .u64 a1_1, .int .u64 a1_2]] rfl (by (try simp only [List.map_toArray, List.map_cons, List.map_nil]); first | done | rfl | (simp only [List.length_drop, List.length_take]; rfl)) ?_; (with_reducible refine (node_Of.calls a0 a1_0 a1_1 a1_2 true _ A8.out).mono ?_); rintro e w14 ⟨rfl, hb⟩; refine ⟨_, rfl, ?_⟩; have n0_ := aM' (blk_below (g := gb170) (o := .cells #[.string a1_0, .int .u64 a1_1, .int .u64 a1_2] 26 (0, 0)) (by (with_reducible repeat (first | refine blk_drewN ?_ _ | refine blk_drew ?_ | refine blk_alloc ?_ _)); exact BK170.out) hb); have n1_ := aM' (blk_below (g := gb171) (o := .cells #[.string a2_0, .int .u64 a2_1, .int .u64 a2_2] 26 (0, 0)) (by (with_reducible repeat (first | refine blk_drewN ?_ _ | refine blk_drew ?_ | refine blk_alloc ?_ _)); exact BK171.out) hb); have n2_ := aM' (blk_below (g := gb172) (o := .cells #[.string (⟨#[]⟩ : ByteArray), .int .u64 0, .int .u64 0] 26 (0, 0)) (by (with_reducible repeat (first | refine blk_drewN ?_ _ | refine blk_drew ?_ | refine blk_alloc ?_ _)); exact BK172.out) hb); have n3_ := aM' (below_step (by repeat (first | (with_reducible first | exact HB.out | apply below_alloc | apply pw_below_drewN | apply below_drew1 | refine below_set ?_ GE170.out | refine below_set ?_ GE171.out | refine below_set ?_ GE172.out) | exact HB.out)) hb); clear BK170; clear BK171; clear BK172; clear HB; have BK170 := n0_; have BK171 := n1_; have BK172 := n2_; have HB := n3_; clear n0_ n1_ n2_ n3_; (try clear hb); (try clear hb2); (try clear hk); (try clear hi); have hnb15 := NB171_172.out; have hnc15 := NB172_171.out; have hcz16_0 : w14.cell? ⟨gb171, 0, none⟩ = some (.string a2_0) := (blk_cell BK171.out 0).trans rfl; have hcz16_1 : w14.cell? ⟨gb171, 1, none⟩ = some (.int .u64 a2_1) := (blk_cell BK171.out 1).trans rfl; have hcz16_2 : w14.cell? ⟨gb171, 2, none⟩ = some (.int .u64 a2_2) := (blk_cell BK171.out 2).trans rfl; have hfz16_0 := blk_frozen BK171.out 0; have hfz16_1 := blk_frozen BK171.out 1; have hfz16_2 := blk_frozen BK171.out 2) | (go_at_call 21; (with_reducible refine (node_Of.calls a0 a2_0 a2_1 a2_2 t174 _ A10.out).mono ?_); rintro e w17 ⟨rfl, hb⟩; have n0_ := aM' (blk_below (g := gb170) (o := .cells #[.string a1_0, .int .u64 a1_1, .int .u64 a1_2] 26 (0, 0)) (by (with_reducible repeat (first | refine blk_drewN ?_ _ | refine blk_drew ?_ | refine blk_alloc ?_ _)); exact BK170.out) hb); have n1_ := aM' (blk_below (g := gb171) (o := .cells #[.string a2_0, .int .u64 a2_1, .int .u64 a2_2] 26 (0, 0)) (by (with_reducible repeat (first | refine blk_drewN ?_ _ | refine blk_drew ?_ | refine blk_alloc ?_ _)); exact BK171.out) hb); have n2_ := aM' (blk_below (g := gb172) (o := .cells #[.string (⟨#[]⟩ : ByteArray), .int .u64 0, .int .u64 0] 26 (0, 0)) (by (with_reducible repeat (first | refine blk_drewN ?_ _ | refine blk_drew ?_ | refine blk_alloc ?_ _)); exact BK172.out) hb); have n3_ := aM' (below_step (by repeat (first | (with_reducible first | exact HB.out | apply below_alloc | apply pw_below_drewN | apply below_drew1 | refine below_set ?_ GE170.out | refine below_set ?_ GE171.out | refine below_set ?_ GE172.out) | exact HB.out)) hb); clear BK170; clear BK171; clear BK172; clear HB; have BK170 := n0_; have BK171 := n1_; have BK172 := n2_; have HB := n3_; clear n0_ n1_ n2_ n3_; (try clear hb); (try clear hb2); (try clear hk); (try clear hi)))
   go_meet
   case rel => exact ⟨_, (!t174), (by first | rfl | (simp; done) | (simp [*]; done)), H', ⟨by first | omega | exact Nat.le_refl _⟩, ⟨by (with_reducible repeat (first | refine blk_drewN ?_ _ | refine blk_drew ?_ | refine blk_alloc ?_ _)); exact BK170.out⟩, ⟨by (with_reducible repeat (first | refine blk_drewN ?_ _ | refine blk_drew ?_ | refine blk_alloc ?_ _)); exact BK171.out⟩, ⟨by (with_reducible repeat (first | refine blk_drewN ?_ _ | refine blk_drew ?_ | refine blk_alloc ?_ _)); exact BK172.out⟩, ⟨by repeat (first | (with_reducible first | exact HB.out | apply below_alloc | apply pw_below_drewN | apply below_drew1 | refine below_set ?_ GE170.out | refine below_set ?_ GE171.out | refine below_set ?_ GE172.out) | exact HB.out)⟩⟩
  ·
   replace c9 := Bool.eq_false_iff.mpr c9
   subst c9
   have H1 : (node_Join.j0 k a0 true a1_0 a1_1 a1_2 a2_0 a2_1 a2_2) = some (r1, r2, r3, r4) := by rw [if_neg (show ¬ (false = true) by decide)] at H; exact H
   clear H
   have H := H1
   clear H1
   have H' := aM' H
   clear H
   have hnb18 := NB170_171.out
   have hnc18 := NB171_170.out
   have hnb19 := NB170_172.out
   have hnc19 := NB172_170.out
   have hcz20_0 : w7.cell? ⟨gb170, 0, none⟩ = some (.string a1_0) := (blk_cell BK170.out 0).trans rfl
   have hcz20_1 : w7.cell? ⟨gb170, 1, none⟩ = some (.int .u64 a1_1) := (blk_cell BK170.out 1).trans rfl
   have hcz20_2 : w7.cell? ⟨gb170, 2, none⟩ = some (.int .u64 a1_2) := (blk_cell BK170.out 2).trans rfl
   have hfz20_0 := blk_frozen BK170.out 0
   have hfz20_1 := blk_frozen BK170.out 1
   have hfz20_2 := blk_frozen BK170.out 2
   go_wp2_with (first | ((with_reducible refine gate_callee (f := 21) rfl ?_); refine goesL_ (some 12) rfl rfl Tryd.func21 (by kernel_rfl) rfl #[.int .i64 a0, .agg #[.string a1_0, .int .u64 a1_1, .int .u64 a1_2]] rfl (by (try simp only [List.map_toArray, List.map_cons, List.map_nil]); first | done | rfl | (simp only [List.length_drop, List.length_take]; rfl)) ?_; (with_reducible refine (node_Of.calls a0 a1_0 a1_1 a1_2 false _ A8.out).mono ?_); rintro e w21 ⟨rfl, hb⟩; refine ⟨_, rfl, ?_⟩; have n0_ := aM' (blk_below (g := gb170) (o := .cells #[.string a1_0, .int .u64 a1_1, .int .u64 a1_2] 26 (0, 0)) (by (with_reducible repeat (first | refine blk_drewN ?_ _ | refine blk_drew ?_ | refine blk_alloc ?_ _)); exact BK170.out) hb); have n1_ := aM' (blk_below (g := gb171) (o := .cells #[.string a2_0, .int .u64 a2_1, .int .u64 a2_2] 26 (0, 0)) (by (with_reducible repeat (first | refine blk_drewN ?_ _ | refine blk_drew ?_ | refine blk_alloc ?_ _)); exact BK171.out) hb); have n2_ := aM' (blk_below (g := gb172) (o := .cells #[.string (⟨#[]⟩ : ByteArray), .int .u64 0, .int .u64 0] 26 (0, 0)) (by (with_reducible repeat (first | refine blk_drewN ?_ _ | refine blk_drew ?_ | refine blk_alloc ?_ _)); exact BK172.out) hb); have n3_ := aM' (below_step (by repeat (first | (with_reducible first | exact HB.out | apply below_alloc | apply pw_below_drewN | apply below_drew1 | refine below_set ?_ GE170.out | refine below_set ?_ GE171.out | refine below_set ?_ GE172.out) | exact HB.out)) hb); clear BK170; clear BK171; clear BK172; clear HB; have BK170 := n0_; have BK171 := n1_; have BK172 := n2_; have HB := n3_; clear n0_ n1_ n2_ n3_; (try clear hb); (try clear hb2); (try clear hk); (try clear hi)))
   go_meet
   case rel => exact ⟨_, (true), (by first | rfl | (simp; done) | (simp [*]; done)), H', ⟨by first | omega | exact Nat.le_refl _⟩, ⟨by (with_reducible repeat (first | refine blk_drewN ?_ _ | refine blk_drew ?_ | refine blk_alloc ?_ _)); exact BK170.out⟩, ⟨by (with_reducible repeat (first | refine blk_drewN ?_ _ | refine blk_drew ?_ | refine blk_alloc ?_ _)); exact BK171.out⟩, ⟨by (with_reducible repeat (first | refine blk_drewN ?_ _ | refine blk_drew ?_ | refine blk_alloc ?_ _)); exact BK172.out⟩, ⟨by repeat (first | (with_reducible first | exact HB.out | apply below_alloc | apply pw_below_drewN | apply below_drew1 | refine below_set ?_ GE170.out | refine below_set ?_ GE171.out | refine below_set ?_ GE172.out) | exact HB.out)⟩⟩
 case rest =>
  clear HC4
  try clear c1
  try clear c2
  try clear p2
  try clear c9
  try clear c11
  try clear c12
  try clear c15
  try clear c18
  try clear c19
  try clear c21
  try clear hcz13_0
  try clear hcz13_1
  try clear hcz13_2
  try clear hcz16_0
  try clear hcz16_1
  try clear hcz16_2
  try clear hcz20_0
  try clear hcz20_1
  try clear hcz20_2
  try clear hfz13_0
  try clear hfz13_1
  try clear hfz13_2
  try clear hfz16_0
  try clear hfz16_1
  try clear hfz16_2
  try clear hfz20_0
  try clear hfz20_1
  try clear hfz20_2
  obtain ⟨kq, x19_3, rfl, HA, HJ3, BK170, BK171, BK172, HB⟩ := hcut
  cases kq with
  | zero => exact absurd HA.out (by simp [node_Join.j0])
  | succ kj3 =>
   have H := HA.out
   clear HA
   simp only [node_Join.j0] at H
   by_cases c22 : x19_3 = true
   ·
    subst c22
    have H1 : (some ((⟨#[]⟩ : ByteArray), 0, 0, 70)) = some (r1, r2, r3, r4) := by rw [if_pos rfl] at H; exact H
    clear H
    have H := H1
    clear H1
    simp only [Option.some.injEq, Prod.mk.injEq] at H
    obtain ⟨rfl, rfl, rfl, rfl⟩ := H
    have hnb23 := NB172_170.out
    have hnc23 := NB170_172.out
    have hnb24 := NB172_171.out
    have hnc24 := NB171_172.out
    have hcz25_0 : wc.cell? ⟨gb172, 0, none⟩ = some (.string (⟨#[]⟩ : ByteArray)) := (blk_cell BK172.out 0).trans rfl
    have hcz25_1 : wc.cell? ⟨gb172, 1, none⟩ = some (.int .u64 0) := (blk_cell BK172.out 1).trans rfl
    have hcz25_2 : wc.cell? ⟨gb172, 2, none⟩ = some (.int .u64 0) := (blk_cell BK172.out 2).trans rfl
    have hfz25_0 := blk_frozen BK172.out 0
    have hfz25_1 := blk_frozen BK172.out 1
    have hfz25_2 := blk_frozen BK172.out 2
    go_wp2
    refine bodyPost_ret (results_ct rfl _ _ gb172 26 #[.string (⟨#[]⟩ : ByteArray), .int .u64 0, .int .u64 0] (0, 0) _ rfl (by (with_reducible repeat (first | refine blk_drewN ?_ _ | refine blk_drew ?_ | refine blk_alloc ?_ _)); refine blk_put (cs := #[.string (⟨#[]⟩ : ByteArray), .int .u64 0, .int .u64 0]) ?_ 2 _ rfl; (with_reducible repeat (first | refine blk_drewN ?_ _ | refine blk_drew ?_ | refine blk_alloc ?_ _)); refine blk_put (cs := #[.string (⟨#[]⟩ : ByteArray), .int .u64 0, .int .u64 0]) ?_ 1 _ rfl; (with_reducible repeat (first | refine blk_drewN ?_ _ | refine blk_drew ?_ | refine blk_alloc ?_ _)); refine blk_put (cs := #[.string (⟨#[]⟩ : ByteArray), .int .u64 0, .int .u64 0]) ?_ 0 _ rfl; (with_reducible repeat (first | refine blk_drewN ?_ _ | refine blk_drew ?_ | refine blk_alloc ?_ _)); exact BK172.out) Tryd.underlying26 rfl (by kernel_rfl)) rfl ?_
    exact ⟨by first | rfl | (simp [errW_none, errW_some] <;> rfl) | (simp [*, errW_none, errW_some] <;> rfl), by repeat (first | (with_reducible first | exact HB.out | apply below_alloc | apply pw_below_drewN | apply below_drew1 | refine below_set ?_ GE170.out | refine below_set ?_ GE171.out | refine below_set ?_ GE172.out) | exact HB.out)⟩
   ·
    replace c22 := Bool.eq_false_iff.mpr c22
    subst c22
    have H1 : ((u128_Add.f a1_1 a1_2 a2_1 a2_2).bind fun bt175 => (if bt175.2.2 = 0 then ((tag_NodeText.f a1_0 a1_1 a1_2 a2_0 a2_1 a2_2).bind fun t179 => ((tag_Digest.f a0 t179).bind fun t180 => (some (t180, bt175.1, bt175.2.1, 0)))) else (some ((⟨#[]⟩ : ByteArray), 0, 0, 10)))) = some (r1, r2, r3, r4) := by rw [if_neg (show ¬ (false = true) by decide)] at H; exact H
    clear H
    have H := H1
    clear H1
    replace H := Option.bind_eq_some_iff.mp H
    obtain ⟨⟨t175, t176, t177⟩, A260, H⟩ := H
    replace H : (if t177 = 0 then ((tag_NodeText.f a1_0 a1_1 a1_2 a2_0 a2_1 a2_2).bind fun t179 => ((tag_Digest.f a0 t179).bind fun t180 => (some (t180, t175, t176, 0)))) else (some ((⟨#[]⟩ : ByteArray), 0, 0, 10))) = some (r1, r2, r3, r4) := H
    have A26 := aM' A260
    clear A260
    by_cases c27 : t177 = 0
    ·
     rw [if_pos c27] at H
     have c27b0 : (t177 == 0) = true := beq_iff_eq.mpr c27
     have c27b1 : (t177 != 0) = false := bne_eq_false_iff_eq.mpr c27
     clear c27
     replace H := Option.bind_eq_some_iff.mp H
     obtain ⟨t179, A280, H⟩ := H
     replace H : ((tag_Digest.f a0 t179).bind fun t180 => (some (t180, t175, t176, 0))) = some (r1, r2, r3, r4) := H
     have A28 := aM' A280
     clear A280
     replace H := Option.bind_eq_some_iff.mp H
     obtain ⟨t180, A290, H⟩ := H
     replace H : (some (t180, t175, t176, 0)) = some (r1, r2, r3, r4) := H
     have A29 := aM' A290
     clear A290
     simp only [Option.some.injEq, Prod.mk.injEq] at H
     obtain ⟨rfl, rfl, rfl, rfl⟩ := H
     have hnb30 := NB170_171.out
     have hnc30 := NB171_170.out
     have hnb31 := NB170_172.out
     have hnc31 := NB172_170.out
     have hcz32_0 : wc.cell? ⟨gb170, 0, none⟩ = some (.string a1_0) := (blk_cell BK170.out 0).trans rfl
     have hcz32_1 : wc.cell? ⟨gb170, 1, none⟩ = some (.int .u64 a1_1) := (blk_cell BK170.out 1).trans rfl
     have hcz32_2 : wc.cell? ⟨gb170, 2, none⟩ = some (.int .u64 a1_2) := (blk_cell BK170.out 2).trans rfl
     have hfz32_0 := blk_frozen BK170.out 0
     have hfz32_1 := blk_frozen BK170.out 1
     have hfz32_2 := blk_frozen BK170.out 2
     have hnb33 := NB171_172.out
     have hnc33 := NB172_171.out
     have hcz34_0 : wc.cell? ⟨gb171, 0, none⟩ = some (.string a2_0) := (blk_cell BK171.out 0).trans rfl
     have hcz34_1 : wc.cell? ⟨gb171, 1, none⟩ = some (.int .u64 a2_1) := (blk_cell BK171.out 1).trans rfl
     have hcz34_2 : wc.cell? ⟨gb171, 2, none⟩ = some (.int .u64 a2_2) := (blk_cell BK171.out 2).trans rfl
     have hfz34_0 := blk_frozen BK171.out 0
     have hfz34_1 := blk_frozen BK171.out 1
     have hfz34_2 := blk_frozen BK171.out 2
     try go_wp2_with (first | ((with_reducible refine gate_callee (f := 42) rfl ?_); refine goesL_ (some 26) rfl rfl Tryd.func42 (by kernel_rfl) rfl #[.agg #[.int .u64 a1_1, .int .u64 a1_2], .agg #[.int .u64 a2_1, .int .u64 a2_2]] rfl (by (try simp only [List.map_toArray, List.map_cons, List.map_nil]); first | done | rfl | (simp only [List.length_drop, List.length_take]; rfl)) ?_; (with_reducible refine (u128_Add.calls a1_1 a1_2 a2_1 a2_2 t175 t176 t177 _ A26.out).mono ?_); rintro e w35 ⟨rfl, hb⟩; refine ⟨_, rfl, ?_⟩; have n0_ := aM' (blk_below (g := gb170) (o := .cells #[.string a1_0, .int .u64 a1_1, .int .u64 a1_2] 26 (0, 0)) (by (with_reducible repeat (first | refine blk_drewN ?_ _ | refine blk_drew ?_ | refine blk_alloc ?_ _)); exact BK170.out) hb); have n1_ := aM' (blk_below (g := gb171) (o := .cells #[.string a2_0, .int .u64 a2_1, .int .u64 a2_2] 26 (0, 0)) (by (with_reducible repeat (first | refine blk_drewN ?_ _ | refine blk_drew ?_ | refine blk_alloc ?_ _)); exact BK171.out) hb); have n2_ := aM' (blk_below (g := gb172) (o := .cells #[.string (⟨#[]⟩ : ByteArray), .int .u64 0, .int .u64 0] 26 (0, 0)) (by (with_reducible repeat (first | refine blk_drewN ?_ _ | refine blk_drew ?_ | refine blk_alloc ?_ _)); exact BK172.out) hb); have n3_ := aM' (below_step (by repeat (first | (with_reducible first | exact HB.out | apply below_alloc | apply pw_below_drewN | apply below_drew1 | refine below_set ?_ GE170.out | refine below_set ?_ GE171.out | refine below_set ?_ GE172.out) | exact HB.out)) hb); clear BK170; clear BK171; clear BK172; clear HB; have BK170 := n0_; have BK171 := n1_; have BK172 := n2_; have HB := n3_; clear n0_ n1_ n2_ n3_; (try clear hb); (try clear hb2); (try clear hk); (try clear hi)) | ((with_reducible refine gate_dst (N := 8) rfl ?_); refine box_event ?hg (N := 8) ?hd (cs := #[.int .u64 0, .int .u64 0]) (t := 24) ?hr ?_; (case hd => rfl); (case hg => rfl); (case hr => first | (go_simp; done) | (go_simp; rfl)); intro gb178 hg w36 hbox hb; have n0_ := aM' (blk_below (g := gb170) (o := .cells #[.string a1_0, .int .u64 a1_1, .int .u64 a1_2] 26 (0, 0)) (by (with_reducible repeat (first | refine blk_drewN ?_ _ | refine blk_drew ?_ | refine blk_alloc ?_ _)); exact BK170.out) hb); have n1_ := aM' (blk_below (g := gb171) (o := .cells #[.string a2_0, .int .u64 a2_1, .int .u64 a2_2] 26 (0, 0)) (by (with_reducible repeat (first | refine blk_drewN ?_ _ | refine blk_drew ?_ | refine blk_alloc ?_ _)); exact BK171.out) hb); have n2_ := aM' (blk_below (g := gb172) (o := .cells #[.string (⟨#[]⟩ : ByteArray), .int .u64 0, .int .u64 0] 26 (0, 0)) (by (with_reducible repeat (first | refine blk_drewN ?_ _ | refine blk_drew ?_ | refine blk_alloc ?_ _)); exact BK172.out) hb); have n3_ := aM' (below_step (by repeat (first | (with_reducible first | exact HB.out | apply below_alloc | apply pw_below_drewN | apply below_drew1 | refine below_set ?_ GE170.out | refine below_set ?_ GE171.out | refine below_set ?_ GE172.out) | exact HB.out)) hb); have n4_ := aM' (hbox); have n5_ := aM' ((by rw [hg]; exact (below_size (by repeat (first | (with_reducible first | exact HB.out | apply below_alloc | apply pw_below_drewN | apply below_drew1 | refine below_set ?_ GE170.out | refine below_set ?_ GE171.out | refine below_set ?_ GE172.out) | exact HB.out))) : w.heap.size ≤ gb178)); have n6_ := aM' ((by rw [hg]; exact (below_size (by repeat (first | (with_reducible first | exact HB.out | apply below_alloc | apply pw_below_drewN | apply below_drew1 | refine below_set ?_ GE170.out | refine below_set ?_ GE171.out | refine below_set ?_ GE172.out) | exact HB.out))) : w.heap.size ≤ gb178)); have n7_ := aM' ((by rw [hg]; exact Nat.ne_of_lt (blk_lt (g := gb170) (o := .cells #[.string a1_0, .int .u64 a1_1, .int .u64 a1_2] 26 (0, 0)) (by (with_reducible repeat (first | refine blk_drewN ?_ _ | refine blk_drew ?_ | refine blk_alloc ?_ _)); exact BK170.out)) : gb170 ≠ gb178)); have n8_ := aM' ((by rw [hg]; exact Nat.ne_of_gt (blk_lt (g := gb170) (o := .cells #[.string a1_0, .int .u64 a1_1, .int .u64 a1_2] 26 (0, 0)) (by (with_reducible repeat (first | refine blk_drewN ?_ _ | refine blk_drew ?_ | refine blk_alloc ?_ _)); exact BK170.out)) : gb178 ≠ gb170)); have n9_ := aM' ((by rw [hg]; exact Nat.ne_of_lt (blk_lt (g := gb171) (o := .cells #[.string a2_0, .int .u64 a2_1, .int .u64 a2_2] 26 (0, 0)) (by (with_reducible repeat (first | refine blk_drewN ?_ _ | refine blk_drew ?_ | refine blk_alloc ?_ _)); exact BK171.out)) : gb171 ≠ gb178)); have n10_ := aM' ((by rw [hg]; exact Nat.ne_of_gt (blk_lt (g := gb171) (o := .cells #[.string a2_0, .int .u64 a2_1, .int .u64 a2_2] 26 (0, 0)) (by (with_reducible repeat (first | refine blk_drewN ?_ _ | refine blk_drew ?_ | refine blk_alloc ?_ _)); exact BK171.out)) : gb178 ≠ gb171)); have n11_ := aM' ((by rw [hg]; exact Nat.ne_of_lt (blk_lt (g := gb172) (o := .cells #[.string (⟨#[]⟩ : ByteArray), .int .u64 0, .int .u64 0] 26 (0, 0)) (by (with_reducible repeat (first | refine blk_drewN ?_ _ | refine blk_drew ?_ | refine blk_alloc ?_ _)); exact BK172.out)) : gb172 ≠ gb178)); have n12_ := aM' ((by rw [hg]; exact Nat.ne_of_gt (blk_lt (g := gb172) (o := .cells #[.string (⟨#[]⟩ : ByteArray), .int .u64 0, .int .u64 0] 26 (0, 0)) (by (with_reducible repeat (first | refine blk_drewN ?_ _ | refine blk_drew ?_ | refine blk_alloc ?_ _)); exact BK172.out)) : gb178 ≠ gb172)); clear BK170; clear BK171; clear BK172; clear HB; have BK170 := n0_; have BK171 := n1_; have BK172 := n2_; have HB := n3_; have BK178 := n4_; have GW178 := n5_; have GE178 := n6_; have NB170_178 := n7_; have NB178_170 := n8_; have NB171_178 := n9_; have NB178_171 := n10_; have NB172_178 := n11_; have NB178_172 := n12_; clear n0_ n1_ n2_ n3_ n4_ n5_ n6_ n7_ n8_ n9_ n10_ n11_ n12_; clear hb hbox hg; have hnb37 := NB178_170.out; have hnc37 := NB170_178.out; have hnb38 := NB178_171.out; have hnc38 := NB171_178.out; have hnb39 := NB178_172.out; have hnc39 := NB172_178.out; have hcz40_0 : w36.cell? ⟨gb178, 0, none⟩ = some (.int .u64 0) := (blk_cell BK178.out 0).trans rfl; have hcz40_1 : w36.cell? ⟨gb178, 1, none⟩ = some (.int .u64 0) := (blk_cell BK178.out 1).trans rfl; have hfz40_0 := blk_frozen BK178.out 0; have hfz40_1 := blk_frozen BK178.out 1))
     have n0_ : Aside0 (((w36.setCell ⟨gb178, 0, none⟩ (.int .u64 t175)).setCell ⟨gb178, 1, none⟩ (.int .u64 t176)).heap[gb170]? = some (.cells #[.string a1_0, .int .u64 a1_1, .int .u64 a1_2] 26 (0, 0))) := ⟨by (with_reducible repeat (first | refine blk_drewN ?_ _ | refine blk_drew ?_ | refine blk_alloc ?_ _)); refine blk_far ?_ NB170_178.out _; (with_reducible repeat (first | refine blk_drewN ?_ _ | refine blk_drew ?_ | refine blk_alloc ?_ _)); refine blk_far ?_ NB170_178.out _; (with_reducible repeat (first | refine blk_drewN ?_ _ | refine blk_drew ?_ | refine blk_alloc ?_ _)); exact BK170.out⟩
     have n1_ : Aside0 (((w36.setCell ⟨gb178, 0, none⟩ (.int .u64 t175)).setCell ⟨gb178, 1, none⟩ (.int .u64 t176)).heap[gb171]? = some (.cells #[.string a2_0, .int .u64 a2_1, .int .u64 a2_2] 26 (0, 0))) := ⟨by (with_reducible repeat (first | refine blk_drewN ?_ _ | refine blk_drew ?_ | refine blk_alloc ?_ _)); refine blk_far ?_ NB171_178.out _; (with_reducible repeat (first | refine blk_drewN ?_ _ | refine blk_drew ?_ | refine blk_alloc ?_ _)); refine blk_far ?_ NB171_178.out _; (with_reducible repeat (first | refine blk_drewN ?_ _ | refine blk_drew ?_ | refine blk_alloc ?_ _)); exact BK171.out⟩
     have n2_ : Aside0 (((w36.setCell ⟨gb178, 0, none⟩ (.int .u64 t175)).setCell ⟨gb178, 1, none⟩ (.int .u64 t176)).heap[gb172]? = some (.cells #[.string (⟨#[]⟩ : ByteArray), .int .u64 0, .int .u64 0] 26 (0, 0))) := ⟨by (with_reducible repeat (first | refine blk_drewN ?_ _ | refine blk_drew ?_ | refine blk_alloc ?_ _)); refine blk_far ?_ NB172_178.out _; (with_reducible repeat (first | refine blk_drewN ?_ _ | refine blk_drew ?_ | refine blk_alloc ?_ _)); refine blk_far ?_ NB172_178.out _; (with_reducible repeat (first | refine blk_drewN ?_ _ | refine blk_drew ?_ | refine blk_alloc ?_ _)); exact BK172.out⟩
     have n3_ : Aside0 (((w36.setCell ⟨gb178, 0, none⟩ (.int .u64 t175)).setCell ⟨gb178, 1, none⟩ (.int .u64 t176)).heap[gb178]? = some (.cells #[.int .u64 t175, .int .u64 t176] 24 (0, 0))) := ⟨by (with_reducible repeat (first | refine blk_drewN ?_ _ | refine blk_drew ?_ | refine blk_alloc ?_ _)); refine blk_put (cs := #[.int .u64 t175, .int .u64 0]) ?_ 1 _ rfl; (with_reducible repeat (first | refine blk_drewN ?_ _ | refine blk_drew ?_ | refine blk_alloc ?_ _)); refine blk_put (cs := #[.int .u64 0, .int .u64 0]) ?_ 0 _ rfl; (with_reducible repeat (first | refine blk_drewN ?_ _ | refine blk_drew ?_ | refine blk_alloc ?_ _)); exact BK178.out⟩
     have n4_ : Aside0 (Below w.heap.size w ((w36.setCell ⟨gb178, 0, none⟩ (.int .u64 t175)).setCell ⟨gb178, 1, none⟩ (.int .u64 t176))) := ⟨by repeat (first | (with_reducible first | exact HB.out | apply below_alloc | apply pw_below_drewN | apply below_drew1 | refine below_set ?_ GE170.out | refine below_set ?_ GE171.out | refine below_set ?_ GE172.out | refine below_set ?_ GE178.out) | exact HB.out)⟩
     (try clear BK170)
     (try clear BK171)
     (try clear BK172)
     (try clear BK178)
     (try clear HB)
     generalize ((w36.setCell ⟨gb178, 0, none⟩ (.int .u64 t175)).setCell ⟨gb178, 1, none⟩ (.int .u64 t176)) = w41 at n0_ n1_ n2_ n3_ n4_ ⊢
     have BK170 := n0_
     have BK171 := n1_
     have BK172 := n2_
     have BK178 := n3_
     have HB := n4_
     clear n0_ n1_ n2_ n3_ n4_
     have n0_ := aM' (blk_drew BK170.out)
     have n1_ := aM' (blk_drew BK171.out)
     have n2_ := aM' (blk_drew BK172.out)
     have n3_ := aM' (blk_drew BK178.out)
     have n4_ := aM' (below_drew1 HB.out)
     clear BK170
     clear BK171
     clear BK172
     clear BK178
     clear HB
     have BK170 := n0_
     have BK171 := n1_
     have BK172 := n2_
     have BK178 := n3_
     have HB := n4_
     clear n0_ n1_ n2_ n3_ n4_
     refine start_ (n := 9) (S := fun w' => w'.cell? ⟨gb170, 0, none⟩ = some (.string a1_0) ∧ w'.cell? ⟨gb170, 1, none⟩ = some (.int .u64 a1_1) ∧ w'.cell? ⟨gb170, 2, none⟩ = some (.int .u64 a1_2) ∧ w'.cell? ⟨gb171, 0, none⟩ = some (.string a2_0) ∧ w'.cell? ⟨gb171, 1, none⟩ = some (.int .u64 a2_1) ∧ w'.cell? ⟨gb171, 2, none⟩ = some (.int .u64 a2_2) ∧ w'.cell? ⟨gb178, 0, none⟩ = some (.int .u64 t175) ∧ w'.cell? ⟨gb178, 1, none⟩ = some (.int .u64 t176)) (ds := []) #[false, false, false, false, false, false, false, false, false] (by kernel_rfl) rfl rfl ⟨(blk_cell BK170.out 0).trans rfl, (blk_cell BK170.out 1).trans rfl, (blk_cell BK170.out 2).trans rfl, (blk_cell BK171.out 0).trans rfl, (blk_cell BK171.out 1).trans rfl, (blk_cell BK171.out 2).trans rfl, (blk_cell BK178.out 0).trans rfl, (blk_cell BK178.out 1).trans rfl⟩ (fun hHeld => ?_); refine with_tabW node_Join.tab6 node_Join.bits6 (fun HT_ HW_ => ?_)
     generalize w41.drew = w42 at BK170 BK171 BK172 BK178 HB hHeld ⊢
     refine pure_ (i := 0) (N := some 32) (v := ?_) (a' := ?_) #[true, false, false, false, false, false, false, false, false] rfl rfl (any_of HT_.out (by kernel_rfl)) (fun _ _ _ h => h) (Or.inl ⟨by rfl, ?_⟩) ?_ ?_
     rotate_left
     ·
      intro w'
      go_simp
      with_reducible rfl
     rotate_left
     ·
      simp only [Act.put, List.setIfInBounds_toArray, List.set_cons_zero, List.set_cons_succ, i64_w, i32_w]
      rfl
     refine take_ (i := 1) (N := some 33) (v := ?_) (a' := ?_) #[true, true, false, false, false, false, false, false, false] rfl rfl (take_ofW HT_.out HW_.out (by kernel_rfl)) (fun _ _ _ h => h) (Or.inl ⟨by rfl, ?_⟩) hHeld ?_ ?_
     rotate_left
     ·
      rintro w' ⟨s0, s1, s2, s3, s4, s5, s6, s7⟩
      go_simp
      with_reducible rfl
     rotate_left
     ·
      simp only [Act.put, List.setIfInBounds_toArray, List.set_cons_zero, List.set_cons_succ, i64_w, i32_w]
      rfl
     refine take_ (i := 2) (N := some 34) (v := ?_) (a' := ?_) #[true, true, true, false, false, false, false, false, false] rfl rfl (take_ofW HT_.out HW_.out (by kernel_rfl)) (fun _ _ _ h => h) (Or.inl ⟨by rfl, ?_⟩) hHeld ?_ ?_
     rotate_left
     ·
      rintro w' ⟨s0, s1, s2, s3, s4, s5, s6, s7⟩
      go_simp
      with_reducible rfl
     rotate_left
     ·
      simp only [Act.put, List.setIfInBounds_toArray, List.set_cons_zero, List.set_cons_succ, i64_w, i32_w]
      rfl
     refine take_ (i := 5) (N := some 37) (v := ?_) (a' := ?_) #[true, true, true, false, false, true, false, false, false] rfl rfl (take_ofW HT_.out HW_.out (by kernel_rfl)) (fun _ _ _ h => h) (Or.inl ⟨by rfl, ?_⟩) hHeld ?_ ?_
     rotate_left
     ·
      rintro w' ⟨s0, s1, s2, s3, s4, s5, s6, s7⟩
      go_simp
      with_reducible rfl
     rotate_left
     ·
      simp only [Act.put, List.setIfInBounds_toArray, List.set_cons_zero, List.set_cons_succ, i64_w, i32_w]
      rfl
     refine one_ (i := 3) (N := some 35) #[true, true, true, true, false, true, false, false, false] rfl rfl (one_of HT_.out (by kernel_rfl)) (by decide) (fun K hK => ?_)
     refine goes_ Tryd.func44 (by kernel_rfl) rfl #[.agg #[.string a1_0, .int .u64 a1_1, .int .u64 a1_2], .agg #[.string a2_0, .int .u64 a2_1, .int .u64 a2_2]] (by rfl) rfl rfl (by (try simp only [List.map_toArray, List.map_cons, List.map_nil]); first | done | rfl | (simp only [List.length_drop, List.length_take]; rfl)) ?_
     with_reducible refine (tag_NodeText.calls a1_0 a1_1 a1_2 a2_0 a2_1 a2_2 t179 _ A28.out).mono ?_
     rintro e w43 ⟨rfl, hb⟩
     refine ⟨_, rfl, ?_⟩
     have n0_ := aM' (blk_below (g := gb170) (o := .cells #[.string a1_0, .int .u64 a1_1, .int .u64 a1_2] 26 (0, 0)) (by (with_reducible repeat (first | refine blk_drewN ?_ _ | refine blk_drew ?_ | refine blk_alloc ?_ _)); exact BK170.out) hb)
     have n1_ := aM' (blk_below (g := gb171) (o := .cells #[.string a2_0, .int .u64 a2_1, .int .u64 a2_2] 26 (0, 0)) (by (with_reducible repeat (first | refine blk_drewN ?_ _ | refine blk_drew ?_ | refine blk_alloc ?_ _)); exact BK171.out) hb)
     have n2_ := aM' (blk_below (g := gb172) (o := .cells #[.string (⟨#[]⟩ : ByteArray), .int .u64 0, .int .u64 0] 26 (0, 0)) (by (with_reducible repeat (first | refine blk_drewN ?_ _ | refine blk_drew ?_ | refine blk_alloc ?_ _)); exact BK172.out) hb)
     have n3_ := aM' (blk_below (g := gb178) (o := .cells #[.int .u64 t175, .int .u64 t176] 24 (0, 0)) (by (with_reducible repeat (first | refine blk_drewN ?_ _ | refine blk_drew ?_ | refine blk_alloc ?_ _)); exact BK178.out) hb)
     have n4_ := aM' (below_step (by repeat (first | (with_reducible first | exact HB.out | apply below_alloc | apply pw_below_drewN | apply below_drew1 | refine below_set ?_ GE170.out | refine below_set ?_ GE171.out | refine below_set ?_ GE172.out | refine below_set ?_ GE178.out) | exact HB.out)) hb)
     clear BK170
     clear BK171
     clear BK172
     clear BK178
     clear HB
     have BK170 := n0_
     have BK171 := n1_
     have BK172 := n2_
     have BK178 := n3_
     have HB := n4_
     clear n0_ n1_ n2_ n3_ n4_
     (try clear hb)
     (try clear hb2)
     (try clear hk)
     (try clear hi)
     refine hK.out _ _ ⟨(blk_cell BK170.out 0).trans rfl, (blk_cell BK170.out 1).trans rfl, (blk_cell BK170.out 2).trans rfl, (blk_cell BK171.out 0).trans rfl, (blk_cell BK171.out 1).trans rfl, (blk_cell BK171.out 2).trans rfl, (blk_cell BK178.out 0).trans rfl, (blk_cell BK178.out 1).trans rfl⟩ (fun hHeld => ?_)
     clear hK K
     refine norm_ (a' := ?_) ?_ ?_
     rotate_left
     ·
      show Act.put _ (some 35) _ = _
      simp only [Act.put, List.setIfInBounds_toArray, List.set_cons_zero, List.set_cons_succ, i64_w, i32_w]
      rfl
     refine one_ (i := 4) (N := some 36) #[true, true, true, true, true, true, false, false, false] rfl rfl (one_of HT_.out (by kernel_rfl)) (by decide) (fun K hK => ?_)
     refine goes_ Tryd.func43 (by kernel_rfl) rfl #[.int .i64 a0, .string t179] (by rfl) rfl rfl (by (try simp only [List.map_toArray, List.map_cons, List.map_nil]); first | done | rfl | (simp only [List.length_drop, List.length_take]; rfl)) ?_
     with_reducible refine (tag_Digest.calls a0 t179 t180 _ ?side1 A29.out).mono ?_
     (case side1 => exact Laid.below HLD.out (by repeat (first | (with_reducible first | exact HB.out | apply below_alloc | apply pw_below_drewN | apply below_drew1 | refine below_set ?_ GE170.out | refine below_set ?_ GE171.out | refine below_set ?_ GE172.out | refine below_set ?_ GE178.out) | exact HB.out)))
     rintro e w44 ⟨rfl, hb⟩
     refine ⟨_, rfl, ?_⟩
     have n0_ := aM' (blk_below (g := gb170) (o := .cells #[.string a1_0, .int .u64 a1_1, .int .u64 a1_2] 26 (0, 0)) (by (with_reducible repeat (first | refine blk_drewN ?_ _ | refine blk_drew ?_ | refine blk_alloc ?_ _)); exact BK170.out) hb)
     have n1_ := aM' (blk_below (g := gb171) (o := .cells #[.string a2_0, .int .u64 a2_1, .int .u64 a2_2] 26 (0, 0)) (by (with_reducible repeat (first | refine blk_drewN ?_ _ | refine blk_drew ?_ | refine blk_alloc ?_ _)); exact BK171.out) hb)
     have n2_ := aM' (blk_below (g := gb172) (o := .cells #[.string (⟨#[]⟩ : ByteArray), .int .u64 0, .int .u64 0] 26 (0, 0)) (by (with_reducible repeat (first | refine blk_drewN ?_ _ | refine blk_drew ?_ | refine blk_alloc ?_ _)); exact BK172.out) hb)
     have n3_ := aM' (blk_below (g := gb178) (o := .cells #[.int .u64 t175, .int .u64 t176] 24 (0, 0)) (by (with_reducible repeat (first | refine blk_drewN ?_ _ | refine blk_drew ?_ | refine blk_alloc ?_ _)); exact BK178.out) hb)
     have n4_ := aM' (below_step (by repeat (first | (with_reducible first | exact HB.out | apply below_alloc | apply pw_below_drewN | apply below_drew1 | refine below_set ?_ GE170.out | refine below_set ?_ GE171.out | refine below_set ?_ GE172.out | refine below_set ?_ GE178.out) | exact HB.out)) hb)
     clear BK170
     clear BK171
     clear BK172
     clear BK178
     clear HB
     have BK170 := n0_
     have BK171 := n1_
     have BK172 := n2_
     have BK178 := n3_
     have HB := n4_
     clear n0_ n1_ n2_ n3_ n4_
     (try clear hb)
     (try clear hb2)
     (try clear hk)
     (try clear hi)
     refine hK.out _ _ ⟨(blk_cell BK170.out 0).trans rfl, (blk_cell BK170.out 1).trans rfl, (blk_cell BK170.out 2).trans rfl, (blk_cell BK171.out 0).trans rfl, (blk_cell BK171.out 1).trans rfl, (blk_cell BK171.out 2).trans rfl, (blk_cell BK178.out 0).trans rfl, (blk_cell BK178.out 1).trans rfl⟩ (fun hHeld => ?_)
     clear hK K
     refine norm_ (a' := ?_) ?_ ?_
     rotate_left
     ·
      show Act.put _ (some 36) _ = _
      simp only [Act.put, List.setIfInBounds_toArray, List.set_cons_zero, List.set_cons_succ, i64_w, i32_w]
      rfl
     refine pure_ (i := 6) (N := some 38) (v := ?_) (a' := ?_) #[true, true, true, true, true, true, true, false, false] rfl rfl (any_of HT_.out (by kernel_rfl)) (fun _ _ _ h => h) (Or.inl ⟨by rfl, ?_⟩) ?_ ?_
     rotate_left
     ·
      intro w'
      go_simp
      with_reducible rfl
     rotate_left
     ·
      simp only [Act.put, List.setIfInBounds_toArray, List.set_cons_zero, List.set_cons_succ, i64_w, i32_w]
      rfl
     refine one_ (i := 7) (N := none) #[true, true, true, true, true, true, true, true, false] rfl rfl (one_of HT_.out (by kernel_rfl)) (by decide) (fun K hK => ?_)
     have hs45 : w44.cell? ⟨gb172, 0, none⟩ = some (.string (⟨#[]⟩ : ByteArray)) := (blk_cell BK172.out 0).trans rfl
     have hfs45 := blk_frozen BK172.out 0
     have hns45_0 := NB170_172.out
     have hns45_1 := NB171_172.out
     have hns45_3 := NB178_172.out
     have hms45_0 := NB172_170.out
     have hms45_1 := NB172_171.out
     have hms45_3 := NB172_178.out
     have hs46 : w44.cell? ⟨gb172, 1, none⟩ = some (.int .u64 0) := (blk_cell BK172.out 1).trans rfl
     have hfs46 := blk_frozen BK172.out 1
     have hns46_0 := NB170_172.out
     have hns46_1 := NB171_172.out
     have hns46_3 := NB178_172.out
     have hms46_0 := NB172_170.out
     have hms46_1 := NB172_171.out
     have hms46_3 := NB172_178.out
     have hs47 : w44.cell? ⟨gb172, 2, none⟩ = some (.int .u64 0) := (blk_cell BK172.out 2).trans rfl
     have hfs47 := blk_frozen BK172.out 2
     have hns47_0 := NB170_172.out
     have hns47_1 := NB171_172.out
     have hns47_3 := NB178_172.out
     have hms47_0 := NB172_170.out
     have hms47_1 := NB172_171.out
     have hms47_3 := NB172_178.out
     refine skip_ (w1 := ?_) (by rfl) rfl ?_ ?_
     rotate_left
     ·
      go_simp
      rfl
     refine hK.out _ _ ⟨((cell_far (p := ⟨gb172, _, none⟩) NB170_172.out _).trans (((cell_far (p := ⟨gb172, _, none⟩) NB170_172.out _).trans (((cell_far (p := ⟨gb172, _, none⟩) NB170_172.out _).trans (hHeld.1)))))), ((cell_far (p := ⟨gb172, _, none⟩) NB170_172.out _).trans (((cell_far (p := ⟨gb172, _, none⟩) NB170_172.out _).trans (((cell_far (p := ⟨gb172, _, none⟩) NB170_172.out _).trans (hHeld.2.1)))))), ((cell_far (p := ⟨gb172, _, none⟩) NB170_172.out _).trans (((cell_far (p := ⟨gb172, _, none⟩) NB170_172.out _).trans (((cell_far (p := ⟨gb172, _, none⟩) NB170_172.out _).trans (hHeld.2.2.1)))))), ((cell_far (p := ⟨gb172, _, none⟩) NB171_172.out _).trans (((cell_far (p := ⟨gb172, _, none⟩) NB171_172.out _).trans (((cell_far (p := ⟨gb172, _, none⟩) NB171_172.out _).trans (hHeld.2.2.2.1)))))), ((cell_far (p := ⟨gb172, _, none⟩) NB171_172.out _).trans (((cell_far (p := ⟨gb172, _, none⟩) NB171_172.out _).trans (((cell_far (p := ⟨gb172, _, none⟩) NB171_172.out _).trans (hHeld.2.2.2.2.1)))))), ((cell_far (p := ⟨gb172, _, none⟩) NB171_172.out _).trans (((cell_far (p := ⟨gb172, _, none⟩) NB171_172.out _).trans (((cell_far (p := ⟨gb172, _, none⟩) NB171_172.out _).trans (hHeld.2.2.2.2.2.1)))))), ((cell_far (p := ⟨gb172, _, none⟩) NB178_172.out _).trans (((cell_far (p := ⟨gb172, _, none⟩) NB178_172.out _).trans (((cell_far (p := ⟨gb172, _, none⟩) NB178_172.out _).trans (hHeld.2.2.2.2.2.2.1)))))), ((cell_far (p := ⟨gb172, _, none⟩) NB178_172.out _).trans (((cell_far (p := ⟨gb172, _, none⟩) NB178_172.out _).trans (((cell_far (p := ⟨gb172, _, none⟩) NB178_172.out _).trans (hHeld.2.2.2.2.2.2.2))))))⟩ (fun hHeld => ?_)
     clear hK K
     refine pure_ (i := 8) (N := some 7) (v := ?_) (a' := ?_) #[true, true, true, true, true, true, true, true, true] rfl rfl (any_of HT_.out (by kernel_rfl)) (fun _ _ _ h => h) (Or.inl ⟨by rfl, ?_⟩) ?_ ?_
     rotate_left
     ·
      intro w'
      go_simp
      with_reducible rfl
     rotate_left
     ·
      simp only [Act.put, List.setIfInBounds_toArray, List.set_cons_zero, List.set_cons_succ, i64_w, i32_w]
      rfl
     refine done_ (done_of HT_.out (by kernel_rfl)) ?_
     try go_wp2
     refine bodyPost_ret (results_ct rfl _ _ gb172 26 #[.string t180, .int .u64 t175, .int .u64 t176] (0, 0) _ rfl (by (with_reducible repeat (first | refine blk_drewN ?_ _ | refine blk_drew ?_ | refine blk_alloc ?_ _)); refine blk_put (cs := #[.string t180, .int .u64 t175, .int .u64 0]) ?_ 2 _ rfl; (with_reducible repeat (first | refine blk_drewN ?_ _ | refine blk_drew ?_ | refine blk_alloc ?_ _)); refine blk_put (cs := #[.string t180, .int .u64 0, .int .u64 0]) ?_ 1 _ rfl; (with_reducible repeat (first | refine blk_drewN ?_ _ | refine blk_drew ?_ | refine blk_alloc ?_ _)); refine blk_put (cs := #[.string (⟨#[]⟩ : ByteArray), .int .u64 0, .int .u64 0]) ?_ 0 _ rfl; (with_reducible repeat (first | refine blk_drewN ?_ _ | refine blk_drew ?_ | refine blk_alloc ?_ _)); exact BK172.out) Tryd.underlying26 rfl (by kernel_rfl)) rfl ?_
     exact ⟨by first | rfl | (simp [errW_none, errW_some] <;> rfl) | (simp [*, errW_none, errW_some] <;> rfl), by repeat (first | (with_reducible first | exact HB.out | apply below_alloc | apply pw_below_drewN | apply below_drew1 | refine below_set ?_ GE170.out | refine below_set ?_ GE171.out | refine below_set ?_ GE172.out | refine below_set ?_ GE178.out) | exact HB.out)⟩
    ·
     rw [if_neg c27] at H
     have c27b0 : (t177 == 0) = false := beq_eq_false_iff_ne.mpr c27
     have c27b1 : (t177 != 0) = true := bne_iff_ne.mpr c27
     simp only [Option.some.injEq, Prod.mk.injEq] at H
     obtain ⟨rfl, rfl, rfl, rfl⟩ := H
     have hnb48 := NB170_171.out
     have hnc48 := NB171_170.out
     have hnb49 := NB170_172.out
     have hnc49 := NB172_170.out
     have hcz50_0 : wc.cell? ⟨gb170, 0, none⟩ = some (.string a1_0) := (blk_cell BK170.out 0).trans rfl
     have hcz50_1 : wc.cell? ⟨gb170, 1, none⟩ = some (.int .u64 a1_1) := (blk_cell BK170.out 1).trans rfl
     have hcz50_2 : wc.cell? ⟨gb170, 2, none⟩ = some (.int .u64 a1_2) := (blk_cell BK170.out 2).trans rfl
     have hfz50_0 := blk_frozen BK170.out 0
     have hfz50_1 := blk_frozen BK170.out 1
     have hfz50_2 := blk_frozen BK170.out 2
     have hnb51 := NB171_172.out
     have hnc51 := NB172_171.out
     have hcz52_0 : wc.cell? ⟨gb171, 0, none⟩ = some (.string a2_0) := (blk_cell BK171.out 0).trans rfl
     have hcz52_1 : wc.cell? ⟨gb171, 1, none⟩ = some (.int .u64 a2_1) := (blk_cell BK171.out 1).trans rfl
     have hcz52_2 : wc.cell? ⟨gb171, 2, none⟩ = some (.int .u64 a2_2) := (blk_cell BK171.out 2).trans rfl
     have hfz52_0 := blk_frozen BK171.out 0
     have hfz52_1 := blk_frozen BK171.out 1
     have hfz52_2 := blk_frozen BK171.out 2
     go_wp2_with (first | ((with_reducible refine gate_callee (f := 42) rfl ?_); refine goesL_ (some 26) rfl rfl Tryd.func42 (by kernel_rfl) rfl #[.agg #[.int .u64 a1_1, .int .u64 a1_2], .agg #[.int .u64 a2_1, .int .u64 a2_2]] rfl (by (try simp only [List.map_toArray, List.map_cons, List.map_nil]); first | done | rfl | (simp only [List.length_drop, List.length_take]; rfl)) ?_; (with_reducible refine (u128_Add.calls a1_1 a1_2 a2_1 a2_2 t175 t176 t177 _ A26.out).mono ?_); rintro e w53 ⟨rfl, hb⟩; refine ⟨_, rfl, ?_⟩; have n0_ := aM' (blk_below (g := gb170) (o := .cells #[.string a1_0, .int .u64 a1_1, .int .u64 a1_2] 26 (0, 0)) (by (with_reducible repeat (first | refine blk_drewN ?_ _ | refine blk_drew ?_ | refine blk_alloc ?_ _)); exact BK170.out) hb); have n1_ := aM' (blk_below (g := gb171) (o := .cells #[.string a2_0, .int .u64 a2_1, .int .u64 a2_2] 26 (0, 0)) (by (with_reducible repeat (first | refine blk_drewN ?_ _ | refine blk_drew ?_ | refine blk_alloc ?_ _)); exact BK171.out) hb); have n2_ := aM' (blk_below (g := gb172) (o := .cells #[.string (⟨#[]⟩ : ByteArray), .int .u64 0, .int .u64 0] 26 (0, 0)) (by (with_reducible repeat (first | refine blk_drewN ?_ _ | refine blk_drew ?_ | refine blk_alloc ?_ _)); exact BK172.out) hb); have n3_ := aM' (below_step (by repeat (first | (with_reducible first | exact HB.out | apply below_alloc | apply pw_below_drewN | apply below_drew1 | refine below_set ?_ GE170.out | refine below_set ?_ GE171.out | refine below_set ?_ GE172.out) | exact HB.out)) hb); clear BK170; clear BK171; clear BK172; clear HB; have BK170 := n0_; have BK171 := n1_; have BK172 := n2_; have HB := n3_; clear n0_ n1_ n2_ n3_; (try clear hb); (try clear hb2); (try clear hk); (try clear hi)) | ((with_reducible refine gate_dst (N := 8) rfl ?_); refine box_event ?hg (N := 8) ?hd (cs := #[.int .u64 0, .int .u64 0]) (t := 24) ?hr ?_; (case hd => rfl); (case hg => rfl); (case hr => first | (go_simp; done) | (go_simp; rfl)); intro gb178 hg w54 hbox hb; have n0_ := aM' (blk_below (g := gb170) (o := .cells #[.string a1_0, .int .u64 a1_1, .int .u64 a1_2] 26 (0, 0)) (by (with_reducible repeat (first | refine blk_drewN ?_ _ | refine blk_drew ?_ | refine blk_alloc ?_ _)); exact BK170.out) hb); have n1_ := aM' (blk_below (g := gb171) (o := .cells #[.string a2_0, .int .u64 a2_1, .int .u64 a2_2] 26 (0, 0)) (by (with_reducible repeat (first | refine blk_drewN ?_ _ | refine blk_drew ?_ | refine blk_alloc ?_ _)); exact BK171.out) hb); have n2_ := aM' (blk_below (g := gb172) (o := .cells #[.string (⟨#[]⟩ : ByteArray), .int .u64 0, .int .u64 0] 26 (0, 0)) (by (with_reducible repeat (first | refine blk_drewN ?_ _ | refine blk_drew ?_ | refine blk_alloc ?_ _)); exact BK172.out) hb); have n3_ := aM' (below_step (by repeat (first | (with_reducible first | exact HB.out | apply below_alloc | apply pw_below_drewN | apply below_drew1 | refine below_set ?_ GE170.out | refine below_set ?_ GE171.out | refine below_set ?_ GE172.out) | exact HB.out)) hb); have n4_ := aM' (hbox); have n5_ := aM' ((by rw [hg]; exact (below_size (by repeat (first | (with_reducible first | exact HB.out | apply below_alloc | apply pw_below_drewN | apply below_drew1 | refine below_set ?_ GE170.out | refine below_set ?_ GE171.out | refine below_set ?_ GE172.out) | exact HB.out))) : w.heap.size ≤ gb178)); have n6_ := aM' ((by rw [hg]; exact (below_size (by repeat (first | (with_reducible first | exact HB.out | apply below_alloc | apply pw_below_drewN | apply below_drew1 | refine below_set ?_ GE170.out | refine below_set ?_ GE171.out | refine below_set ?_ GE172.out) | exact HB.out))) : w.heap.size ≤ gb178)); have n7_ := aM' ((by rw [hg]; exact Nat.ne_of_lt (blk_lt (g := gb170) (o := .cells #[.string a1_0, .int .u64 a1_1, .int .u64 a1_2] 26 (0, 0)) (by (with_reducible repeat (first | refine blk_drewN ?_ _ | refine blk_drew ?_ | refine blk_alloc ?_ _)); exact BK170.out)) : gb170 ≠ gb178)); have n8_ := aM' ((by rw [hg]; exact Nat.ne_of_gt (blk_lt (g := gb170) (o := .cells #[.string a1_0, .int .u64 a1_1, .int .u64 a1_2] 26 (0, 0)) (by (with_reducible repeat (first | refine blk_drewN ?_ _ | refine blk_drew ?_ | refine blk_alloc ?_ _)); exact BK170.out)) : gb178 ≠ gb170)); have n9_ := aM' ((by rw [hg]; exact Nat.ne_of_lt (blk_lt (g := gb171) (o := .cells #[.string a2_0, .int .u64 a2_1, .int .u64 a2_2] 26 (0, 0)) (by (with_reducible repeat (first | refine blk_drewN ?_ _ | refine blk_drew ?_ | refine blk_alloc ?_ _)); exact BK171.out)) : gb171 ≠ gb178)); have n10_ := aM' ((by rw [hg]; exact Nat.ne_of_gt (blk_lt (g := gb171) (o := .cells #[.string a2_0, .int .u64 a2_1, .int .u64 a2_2] 26 (0, 0)) (by (with_reducible repeat (first | refine blk_drewN ?_ _ | refine blk_drew ?_ | refine blk_alloc ?_ _)); exact BK171.out)) : gb178 ≠ gb171)); have n11_ := aM' ((by rw [hg]; exact Nat.ne_of_lt (blk_lt (g := gb172) (o := .cells #[.string (⟨#[]⟩ : ByteArray), .int .u64 0, .int .u64 0] 26 (0, 0)) (by (with_reducible repeat (first | refine blk_drewN ?_ _ | refine blk_drew ?_ | refine blk_alloc ?_ _)); exact BK172.out)) : gb172 ≠ gb178)); have n12_ := aM' ((by rw [hg]; exact Nat.ne_of_gt (blk_lt (g := gb172) (o := .cells #[.string (⟨#[]⟩ : ByteArray), .int .u64 0, .int .u64 0] 26 (0, 0)) (by (with_reducible repeat (first | refine blk_drewN ?_ _ | refine blk_drew ?_ | refine blk_alloc ?_ _)); exact BK172.out)) : gb178 ≠ gb172)); clear BK170; clear BK171; clear BK172; clear HB; have BK170 := n0_; have BK171 := n1_; have BK172 := n2_; have HB := n3_; have BK178 := n4_; have GW178 := n5_; have GE178 := n6_; have NB170_178 := n7_; have NB178_170 := n8_; have NB171_178 := n9_; have NB178_171 := n10_; have NB172_178 := n11_; have NB178_172 := n12_; clear n0_ n1_ n2_ n3_ n4_ n5_ n6_ n7_ n8_ n9_ n10_ n11_ n12_; clear hb hbox hg; have hnb55 := NB178_170.out; have hnc55 := NB170_178.out; have hnb56 := NB178_171.out; have hnc56 := NB171_178.out; have hnb57 := NB178_172.out; have hnc57 := NB172_178.out; have hcz58_0 : w54.cell? ⟨gb178, 0, none⟩ = some (.int .u64 0) := (blk_cell BK178.out 0).trans rfl; have hcz58_1 : w54.cell? ⟨gb178, 1, none⟩ = some (.int .u64 0) := (blk_cell BK178.out 1).trans rfl; have hfz58_0 := blk_frozen BK178.out 0; have hfz58_1 := blk_frozen BK178.out 1; have hcz59_0 : w54.cell? ⟨gb172, 0, none⟩ = some (.string (⟨#[]⟩ : ByteArray)) := (blk_cell BK172.out 0).trans rfl; have hcz59_1 : w54.cell? ⟨gb172, 1, none⟩ = some (.int .u64 0) := (blk_cell BK172.out 1).trans rfl; have hcz59_2 : w54.cell? ⟨gb172, 2, none⟩ = some (.int .u64 0) := (blk_cell BK172.out 2).trans rfl; have hfz59_0 := blk_frozen BK172.out 0; have hfz59_1 := blk_frozen BK172.out 1; have hfz59_2 := blk_frozen BK172.out 2))
     refine bodyPost_ret (results_ct rfl _ _ gb172 26 #[.string (⟨#[]⟩ : ByteArray), .int .u64 0, .int .u64 0] (0, 0) _ rfl (by (with_reducible repeat (first | refine blk_drewN ?_ _ | refine blk_drew ?_ | refine blk_alloc ?_ _)); refine blk_put (cs := #[.string (⟨#[]⟩ : ByteArray), .int .u64 0, .int .u64 0]) ?_ 2 _ rfl; (with_reducible repeat (first | refine blk_drewN ?_ _ | refine blk_drew ?_ | refine blk_alloc ?_ _)); refine blk_put (cs := #[.string (⟨#[]⟩ : ByteArray), .int .u64 0, .int .u64 0]) ?_ 1 _ rfl; (with_reducible repeat (first | refine blk_drewN ?_ _ | refine blk_drew ?_ | refine blk_alloc ?_ _)); refine blk_put (cs := #[.string (⟨#[]⟩ : ByteArray), .int .u64 0, .int .u64 0]) ?_ 0 _ rfl; (with_reducible repeat (first | refine blk_drewN ?_ _ | refine blk_drew ?_ | refine blk_alloc ?_ _)); refine blk_far ?_ NB172_178.out _; (with_reducible repeat (first | refine blk_drewN ?_ _ | refine blk_drew ?_ | refine blk_alloc ?_ _)); refine blk_far ?_ NB172_178.out _; (with_reducible repeat (first | refine blk_drewN ?_ _ | refine blk_drew ?_ | refine blk_alloc ?_ _)); exact BK172.out) Tryd.underlying26 rfl (by kernel_rfl)) rfl ?_
     exact ⟨by first | rfl | (simp [errW_none, errW_some] <;> rfl) | (simp [*, errW_none, errW_some] <;> rfl), by repeat (first | (with_reducible first | exact HB.out | apply below_alloc | apply pw_below_drewN | apply below_drew1 | refine below_set ?_ GE170.out | refine below_set ?_ GE171.out | refine below_set ?_ GE172.out | refine below_set ?_ GE178.out) | exact HB.out)⟩
end Go.Proofs.YtlmmpncdemblbaaDoor.P
namespace Go.Proofs.YtlmmpncdemblbaaDoor.P
open Go.RowKit Go.Proofs.YtlmmpncdemblbaaDoorW.PrintWords Go.Proofs.YtlmmpncdemblbaaDoorW.PrintLast Go.Proofs.YtlmmpncdemblbaaDoorW.PrintMore
set_option linter.unusedVariables false
set_option linter.unusedSimpArgs false
set_option linter.unnecessarySimpa false
theorem ext_ext (t : ByteArray) (a i j : Nat) (h : a + j ≤ t.size) : (t.extract a t.size).extract i j = t.extract (a + i) (a + j) := by
 rw [ByteArray.extract_extract]
 congr 1
 omega
theorem chainI_front (t : ByteArray) (s : S8) : ∀ n, 64 * (n + 1) ≤ t.size → chainI s t (n + 1) = chainI (nextI s (t.extract 0 64)) (t.extract 64 t.size) n
 | 0, h => rfl
 | n + 1, h => by
  rw [chainI, chainI_front t s n (by omega), chainI, ext_ext t 64 _ _ (by omega), show 64 + 64 * n = 64 * (n + 1) by omega, show 64 + (64 * n + 64) = 64 * (n + 1) + 64 by omega]
theorem eat_blksN : ∀ (n : Nat) (t : ByteArray), t.size / 64 = n → ∀ r : Run, (blksN n t).foldl eat r = ⟨chainI r.s t n, t.extract (64 * n) t.size, r.n⟩
 | 0, t, h, r => by
  simp only [blksN, List.foldl_cons, List.foldl_nil, eat, chainI]
  simp
 | n + 1, t, h, r => by
  have h64 : 64 * (n + 1) ≤ t.size := by omega
  have hs : (t.extract 64 t.size).size = t.size - 64 := by rw [ByteArray.size_extract]; omega
  rw [blksN, List.foldl_cons, eat_blksN n _ (by rw [hs]; omega)]
  simp only [eat, if_true]
  rw [chainI_front t r.s n h64, hs, ext_ext t 64 _ _ (by omega), show 64 + 64 * n = 64 * (n + 1) by omega, show 64 + (t.size - 64) = t.size by omega]
def ran (t : ByteArray) : Run := ⟨chainI firstI t (t.size / 64), t.extract (64 * (t.size / 64)) t.size, (t.size : Int)⟩
theorem chainI_append (s : S8) (t u : ByteArray) : ∀ n, 64 * n ≤ t.size → chainI s (t ++ u) n = chainI s t n
 | 0, _ => rfl
 | n + 1, h => by
  rw [chainI, chainI, chainI_append s t u n (by omega), ByteArray.extract_append]
  have : u.extract (64 * n - t.size) (64 * n + 64 - t.size) = ByteArray.empty := by
   rw [show 64 * n - t.size = 0 by omega, show 64 * n + 64 - t.size = 0 by omega]; simp
  rw [this, ByteArray.append_empty]
theorem chainI_plus (s : S8) (t : ByteArray) (a : Nat) : ∀ n, 64 * (a + n) ≤ t.size → chainI (chainI s t a) (t.extract (64 * a) t.size) n = chainI s t (a + n)
 | 0, _ => rfl
 | n + 1, h => by
  rw [chainI, chainI_plus s t a n (by omega), ← Nat.add_assoc, chainI, ext_ext t (64 * a) _ _ (by omega), show 64 * a + 64 * n = 64 * (a + n) by omega, show 64 * a + (64 * n + 64) = 64 * (a + n) + 64 by omega]
theorem ext_over (t : ByteArray) (i j : Nat) (h : t.size ≤ j) : t.extract i j = t.extract i t.size := by
 apply ByteArray.ext
 rw [ByteArray.data_extract, ByteArray.data_extract]
 rcases Nat.lt_or_eq_of_le h with h | h
 ·
  exact Array.extract_of_size_lt h
 ·
  rw [← h]
theorem ext_cat (t u : ByteArray) (a : Nat) (h : a ≤ t.size) : t.extract a t.size ++ u = (t ++ u).extract a (t ++ u).size := by
 rw [ByteArray.extract_append, ByteArray.size_append, ext_over t a (t.size + u.size) (by omega), show a - t.size = 0 by omega, show t.size + u.size - t.size = u.size by omega]
 rw [show u.extract 0 u.size = u by simp]
theorem takeI_ran (t u : ByteArray) (h : t.size + u.size < 18446744073709551616) : takeI (ran t) u = ran (t ++ u) := by
 have ha : 64 * (t.size / 64) ≤ t.size := by omega
 have hs : (t ++ u).size = t.size + u.size := ByteArray.size_append
 have hc := ext_cat t u (64 * (t.size / 64)) ha
 have hz : ((t ++ u).extract (64 * (t.size / 64)) (t ++ u).size).size = t.size + u.size - 64 * (t.size / 64) := by rw [ByteArray.size_extract, hs]; omega
 unfold takeI ran
 rw [hc, blks, eat_blksN _ _ rfl]
 rw [← chainI_append firstI t u _ ha, chainI_plus firstI (t ++ u) (t.size / 64) _ (by rw [hz, hs]; omega), hz, hs, ← hs, ext_ext _ _ _ _ (by rw [hs]; omega), hs]
 have e1 : t.size / 64 + (t.size + u.size - 64 * (t.size / 64)) / 64 = (t.size + u.size) / 64 := by omega
 have e2 : 64 * (t.size / 64) + 64 * ((t.size + u.size - 64 * (t.size / 64)) / 64) = 64 * ((t.size + u.size) / 64) := by omega
 have e3 : 64 * (t.size / 64) + (t.size + u.size - 64 * (t.size / 64)) = t.size + u.size := by omega
 have e4 : IntKind.u64.wrap ((t.size : Int) + (u.size : Int)) = ((t.size + u.size : Nat) : Int) := by rw [IntKind.wrap_u64]; omega
 rw [e1, e2, e3, e4]
theorem newRun_ran : newRun = ran ByteArray.empty := rfl
theorem ran_sum (t : ByteArray) (h : t.size < 1000000000000) : (ran t).sum = refSumI t := by
 have hp : (padI (t.size : Int)).size ≤ 72 := by rw [padI_size]; unfold padZ; omega
 rw [Run.sum, show (ran t).n = (t.size : Int) from rfl, takeI_ran t _ (by omega)]
 rfl
theorem sumI_ref (t : ByteArray) (h : t.size < 1000000000000) : sumI t = refSumI t := by
 have e : takeI newRun t = ran t := by
  rw [newRun_ran, takeI_ran _ _ (by show 0 + t.size < _; omega), ByteArray.empty_append]
 rw [sumI, e, ran_sum t h]
end Go.Proofs.YtlmmpncdemblbaaDoor.P
namespace Go.Proofs.YtlmmpncdemblbaaDoor.P
open Go.RowKit Go.Proofs.YtlmmpncdemblbaaDoorW.PrintWords Go.Proofs.YtlmmpncdemblbaaDoorW.PrintLast Go.Proofs.YtlmmpncdemblbaaDoorW.PrintMore
set_option linter.unusedVariables false
set_option linter.unusedSimpArgs false
set_option linter.unnecessarySimpa false
structure OkU (u : SU128) : Prop where
 h0 : 0 ≤ u.f0 ∧ u.f0 < 18446744073709551616
 h1 : 0 ≤ u.f1 ∧ u.f1 < 18446744073709551616
theorem tagNodeText_eq (l r : SNode) (hl : l.f0.size ≤ 1000000) (hr : r.f0.size ≤ 1000000) : tag_NodeText.f l.f0 l.f1.f0 l.f1.f1 r.f0 r.f1.f0 r.f1.f1 = some (nodeText l r) := by
 unfold tag_NodeText.f
 rw [if_pos ⟨hl, hr⟩]
def dgI (w : Int) (t : ByteArray) : ByteArray := (refSumI t).extract 0 w.toNat
theorem refSumI_len (t : ByteArray) : (refSumI t).size = 32 := by
 rw [refSumI, digestI, strOfNums_size, digL_length]
theorem tagDigest_eq (w : Int) (t : ByteArray) (h0 : 1 ≤ w) (h1 : w ≤ 32) (ht : t.size ≤ 100000000) : tag_Digest.f w t = some (dgI w t) := by
 have e : sha_Sum.f t = some (refSumI t) := by rw [sha_Sum.f, if_pos (by omega), sumI_ref t (by omega)]
 unfold tag_Digest.f tag_MayWidth.f
 rw [if_pos h0]
 simp only [Option.bind_some, decide_eq_true h1, if_true, e]
 rw [if_pos (by omega), if_pos (by rw [refSumI_len]; omega)]
 rfl
def joinI (w : Int) (l r : SNode) : ByteArray × Int × Int × Int :=
 if nodeOf w l = true ∧ nodeOf w r = true then
  (if (addI128 l.f1.f0 l.f1.f1 r.f1.f0 r.f1.f1).2.2 = 0 then (dgI w (nodeText l r), (addI128 l.f1.f0 l.f1.f1 r.f1.f0 r.f1.f1).1, (addI128 l.f1.f0 l.f1.f1 r.f1.f0 r.f1.f1).2.1, 0) else (⟨#[]⟩, 0, 0, 10))
 else (⟨#[]⟩, 0, 0, 70)
theorem nodeOf_w {w : Int} {n : SNode} (h : nodeOf w n = true) : 1 ≤ w ∧ w ≤ 32 ∧ (n.f0.size : Int) = w := by
 simp only [nodeOf, Bool.and_eq_true, decide_eq_true_eq, beq_iff_eq] at h
 exact h
theorem join_ev (w : Int) (l r : SNode) (ul : OkU l.f1) (ur : OkU r.f1) : Ev (fun k => node_Join.f k w l.f0 l.f1.f0 l.f1.f1 r.f0 r.f1.f0 r.f1.f1) (joinI w l r) := by
 unfold node_Join.f joinI
 simp only [node_Of_eq, Option.bind_some]
 cases h1 : nodeOf w l with
 | false =>
  rw [if_neg (show ¬(false = true ∧ nodeOf w r = true) by simp)]
  exact Ev.congr (fun k => by rw [if_neg (show ¬ false = true by simp)]) (Ev.step (f := fun _ => some (⟨#[]⟩, 0, 0, 70)) (fun k => by rw [node_Join.j0, if_pos rfl]) (Ev.now _))
 | true =>
  refine Ev.congr (fun k => by rw [if_pos rfl]) ?_
  cases h2 : nodeOf w r with
  | false =>
   rw [if_neg (by simp)]
   exact Ev.step (f := fun _ => some (⟨#[]⟩, 0, 0, 70)) (fun k => by rw [node_Join.j0, if_pos (by rfl)]) (Ev.now _)
  | true =>
   rw [if_pos (by simp)]
   obtain ⟨w1, w2, w3⟩ := nodeOf_w h1
   obtain ⟨_, _, w4⟩ := nodeOf_w h2
   refine Ev.step (f := fun _ => some _) (fun k => ?_) (Ev.now _)
   rw [node_Join.j0, if_neg (by decide), u128Add_eq _ _ _ _ ul.h0 ul.h1 ur.h0 ur.h1]
   simp only [Option.bind_some, tagNodeText_eq l r (by omega) (by omega), tagDigest_eq w (nodeText l r) w1 w2 (by rw [nodeText_size]; omega)]
   split <;> rfl
end Go.Proofs.YtlmmpncdemblbaaDoor.P
namespace Go.Proofs.YtlmmpncdemblbaaDoor.P
open Go.RowKit Go.Proofs.YtlmmpncdemblbaaDoorW.PrintWords Go.Proofs.YtlmmpncdemblbaaDoorW.PrintLast Go.Proofs.YtlmmpncdemblbaaDoorW.PrintMore
set_option linter.unusedVariables false
set_option linter.unusedSimpArgs false
set_option linter.unnecessarySimpa false
theorem tagLeafText_eq (l : SLeaf) (hid : l.f1.size ≤ 1000000) (hsa : l.f2.size ≤ 1000000) : tag_LeafText.f l.f0 l.f1 l.f2 l.f3.f0 l.f3.f1 = some (leafTextI l) := by
 unfold tag_LeafText.f
 rw [if_pos ⟨hid, hsa⟩]
def leafNodeI (w : Int) (l : SLeaf) : SNode := if (1 ≤ w ∧ w ≤ 32) ∧ mayLeafI l = true then ⟨dgI w (leafTextI l), l.f3⟩ else ⟨⟨#[]⟩, ⟨0, 0⟩⟩
theorem leafTextI_size (l : SLeaf) (hid : l.f1.size ≤ 1000000) (hsa : l.f2.size ≤ 1000000) : (leafTextI l).size ≤ 3000000 := by
 have z : ∀ x : Int, (strOfNums [x]).size = 1 := fun x => by rw [strOfNums_size]; rfl
 unfold leafTextI
 split
 ·
  split
  ·
   simp only [ByteArray.size_append, z, szI_size]; omega
  ·
   simp only [ByteArray.size_append, z, szI_size, u128B_size]; omega
 ·
  decide
abbrev nodeT (n : SNode) : ByteArray × Int × Int := (n.f0, n.f1.f0, n.f1.f1)
theorem tagLeafNode_ev (w : Int) (l : SLeaf) (hid : l.f1.size ≤ 1000000) (hsa : l.f2.size ≤ 1000000) : Ev (fun k => tag_LeafNode.f k w l.f0 l.f1 l.f2 l.f3.f0 l.f3.f1) (nodeT (leafNodeI w l)) := by
 unfold tag_LeafNode.f tag_MayWidth.f leafNodeI
 rw [tagMayLeaf_eq l hid]
 have hj : ∀ b : Bool, b = true → Ev (fun k => tag_LeafNode.j0 k w b l.f0 l.f1 l.f2 l.f3.f0 l.f3.f1) ((⟨#[]⟩ : ByteArray), 0, 0) := fun b hb => by
  subst hb; exact Ev.step (f := fun _ => some ((⟨#[]⟩ : ByteArray), (0 : Int), (0 : Int))) (fun k => by rw [tag_LeafNode.j0, if_pos rfl]) (Ev.now _)
 by_cases h1 : w ≥ 1
 ·
  by_cases h2 : w ≤ 32
  ·
   simp only [if_pos h1, decide_eq_true h2, Option.bind_some, if_true]
   cases hm : mayLeafI l with
   | false => rw [if_neg (by simp)]; exact hj _ rfl
   | true =>
    rw [if_pos ⟨⟨h1, h2⟩, rfl⟩]
    refine Ev.step (f := fun _ => some _) (fun k => ?_) (Ev.now _)
    rw [tag_LeafNode.j0, if_neg (by decide), tagLeafText_eq l hid hsa]
    simp only [Option.bind_some, tagDigest_eq w (leafTextI l) h1 h2 (by have := leafTextI_size l hid hsa; omega)]
  ·
   simp only [if_pos h1, decide_eq_false h2, Option.bind_some]
   rw [if_neg (fun h => h2 h.1.2)]; exact hj _ rfl
 ·
  simp only [if_neg h1, Option.bind_some]
  rw [if_neg (fun h => h1 h.1.1)]; exact hj _ rfl
theorem leafNodeI_ok (w : Int) (l : SLeaf) (ub : OkU l.f3) : OkU (leafNodeI w l).f1 := by
 unfold leafNodeI; split
 ·
  exact ub
 ·
  exact ⟨⟨by decide, by decide⟩, ⟨by decide, by decide⟩⟩
end Go.Proofs.YtlmmpncdemblbaaDoor.P
namespace Go.Proofs.YtlmmpncdemblbaaDoor.P
open Go.RowKit Go.Proofs.YtlmmpncdemblbaaDoorW.PrintWords Go.Proofs.YtlmmpncdemblbaaDoorW.PrintLast Go.Proofs.YtlmmpncdemblbaaDoorW.PrintMore
set_option linter.unusedVariables false
set_option linter.unusedSimpArgs false
set_option linter.unnecessarySimpa false
attribute [local go_sem] Oper.semAt_some
theorem nodesKeep {w w' : World} {A : Option Addr} {n : Nat} {l : List SNode} (h : Kd.C kNode w A n l) (hb : ∀ a, A = some a → w'.heap[a.block]? = w.heap[a.block]?) : Kd.C kNode w' A n l := by
 obtain ⟨h1, h2, h3⟩ := h
 refine ⟨h1, h2, fun h0 => ?_⟩
 obtain ⟨a, ha, hall⟩ := h3 h0
 refine ⟨a, ha, fun j p hj => ?_⟩
 obtain ⟨cs, hl, hK, hc⟩ := hall j p hj
 obtain rfl := kNode_open hK
 refine ⟨_, hl, kNode_mk w' p, fun i u hu => ?_⟩
 rw [← hc i u hu]
 refine World.cell?_of_block ?_
 have : (a.add (j * kNode.sz + i)).block = a.block := by unfold Addr.add; split <;> rfl
 rw [this]
 exact hb a ha
def KeepS (S : Nat → Prop) (W W' : World) : Prop := ∀ k, S k → W'.heap[k]? = W.heap[k]?
theorem KeepS.trans {S : Nat → Prop} {A B C : World} (h : KeepS S A B) (k : KeepS S B C) : KeepS S A C := fun i hi => (k i hi).trans (h i hi)
theorem KeepS.alloc {S : Nat → Prop} {W w : World} (h : KeepS S W w) (hlt : ∀ k, S k → k < W.heap.size) (v : Obj) : KeepS S W (w.alloc v).drew := fun k hk => by
 have h1 := h k hk
 have h2 : k < w.heap.size := by
  rw [Array.getElem?_eq_getElem (hlt k hk)] at h1
  exact (Array.getElem?_eq_some_iff.1 h1).1
 exact ((World.grownBy_alloc w v none).block k h2 (by simp)).trans h1
def rightS (p : Int) (k : Nat) : Bool := Go.bits .and .u64 (p / 2 ^ k) 1 == 0
def turnsTo (p : Int) (xs : List SNode) (k : Nat) : List (SNode × Bool) := (List.range k).map fun i => (xs.getD i ⟨ByteArray.empty, ⟨0, 0⟩⟩, rightS p i)
theorem turnsTo_succ (p : Int) (xs : List SNode) (k : Nat) (h : k < xs.length) : turnsTo p xs (k + 1) = turnsTo p xs k ++ [(xs[k], rightS p k)] := by
 simp [turnsTo, List.range_succ, List.getD_eq_getElem?_getD, h]
theorem turnsTo_length (p : Int) (xs : List SNode) (k : Nat) : (turnsTo p xs k).length = k := by simp [turnsTo]
abbrev turnV (x : SNode × Bool) : Array Value := #[nodeV x.1, .bool x.2]
theorem grown_drew (W : World) : W.grownBy W.drew none := ⟨rfl, rfl, rfl, Nat.le_refl _, fun _ _ _ => rfl⟩
theorem bar_none {w w1 w2 : World} (h : w.grownBy w1 none) (k : w1.grownBy w2 none) : w.grownBy w2 none :=
 ⟨k.os.trans h.os, k.tape.trans h.tape, k.output.trans h.output, Nat.le_trans h.size k.size, fun i hi hn => (k.block i (lL' hi h.size) hn).trans (h.block i hi hn)⟩
set_option maxRecDepth 100000 in
set_option maxHeartbeats 400000 in
theorem turns1_in (F : Fence) (n : Nat) (hf : F.fn 68) (hro : F.round = none) (hn : 1 ≤ n) (l sb pb B : Nat) (p : Int) (hp : 0 ≤ p) (A : Option Addr) (c : Nat) (xs : List SNode) (hx63 : xs.length ≤ 63) (S : Nat → Prop) (hSs : S sb) (hSp : S pb) (hSA : 0 < xs.length → ∀ a, A = some a → S a.block) (Ok : SNode → Prop) (hok : ∀ x ∈ xs, Ok x)
  (J Jx : List (SNode × Bool) → World → Prop) (hJ : AbidesFrom B J)
  (hY : ∀ pre x W, Ok x.1 → J pre W → pre.length < xs.length → YieldAt F (n - 1) Tryd.prog l (turnV x) W fun e W' => (e = .returned (.bool true) ∧ J (pre ++ [x]) W' ∧ KeepS S W W') ∨ (e = .returned (.bool false) ∧ Jx (pre ++ [x]) W'))
  (W : World) (hs : W.heap[sb]? = some (.cells #[.slice A xs.length c] 27 (0, 0))) (hpb : W.heap[pb]? = some (.cells #[.int .u64 p] 22 (0, 0))) (hr : Kd.C kNode W A xs.length xs) (hlt : ∀ k, S k → k < W.heap.size) (h0 : J [] W) :
  CallsIn F n Tryd.prog 68 #[.func (.yield l) #[] #[], .pointer (some ⟨sb, 0, none⟩), .pointer (some ⟨pb, 0, none⟩)] W fun e W' => (∃ v, e = .returned v) ∧ ((∃ ys, ys = turnsTo p xs xs.length ∧ J ys W') ∨ (∃ pre, (∃ k, k ≤ xs.length ∧ pre = turnsTo p xs k) ∧ Jx pre W')) := by
 obtain ⟨Ff, Fd, Fa, Fr⟩ := F
 obtain rfl : Fr = none := hro
 have hs0 : W.cell? ⟨sb, 0, none⟩ = some (.slice A xs.length c) := blk_cell hs 0
 have HS := aM' hs
 have HP := aM' hpb
 have HR := aM' hr
 have HL := aM' hlt
 have HJ := aM' hJ
 have HY := aM' hY
 have HOK := aM' hok
 clear hok
 clear hs hpb hr hlt hJ hY
 refine callsIn_of_wp Tryd.func68 rfl hf ?_
 simp only [Tryd.ntmps68, List.size_toArray, List.length_cons, List.length_nil, Nat.reduceAdd, Nat.reduceSub, Array.replicate_succ, Array.replicate_zero, List.push_toArray, List.append_toArray, List.nil_append, List.cons_append]
 gi_wp2
 clear hs0
 gi_loopw [8] (fun i wr => ∃ k : Nat, k ≤ xs.length ∧ i = .int .i64 k ∧ Aside0 (J (turnsTo p xs k) wr) ∧ Aside0 (KeepS S W wr)) (fun i _ => xs.length - (intOf i).toNat)
 case atStart => exact ⟨0, Nat.zero_le _, rfl, ⟨h0⟩, ⟨fun _ _ => rfl⟩⟩
 case round =>
  obtain ⟨k, hk, rfl, HJs, HK⟩ := hrel
  by_cases hlt : k < xs.length
  ·
   have b1 : decide ((k : Int) < (xs.length : Int)) = true := decide_eq_true (by omega)
   have p1 : 0 ≤ (k : Int) := by omega
   have p2 : (k : Int) < (xs.length : Int) := by omega
   have hr2 : Kd.C kNode wr A xs.length xs := nodesKeep HR.out (fun a ha => HK.out _ (hSA (by omega) a ha))
   obtain ⟨ad, e, hx0, hx1, hx2⟩ := at_TNode hr2 (k : Int) p1 p2
   rw [rd_TNode_at xs k hlt, Int.toNat_natCast] at hx0 hx1 hx2
   obtain ⟨x, hx⟩ : ∃ x, x = xs[k] := ⟨_, rfl⟩
   rw [← hx] at hx0 hx1 hx2
   have hp0 : wr.cell? ⟨pb, 0, none⟩ = some (.int .u64 p) := blk_cell ((HK.out pb hSp).trans HP.out) 0
   have hpl : pb < wr.heap.size := blk_lt ((HK.out pb hSp).trans HP.out)
   have hpn : pb ≠ wr.heap.size := Nat.ne_of_lt hpl
   have HX := aM' hx
   have hokx : Ok x := by rw [hx]; exact HOK.out _ (List.getElem_mem _)
   clear hx
   cases e
   have hg1 : wr.grownBy (wr.alloc (.cells #[.string x.f0, .int .u64 x.f1.f0, .int .u64 x.f1.f1] 26)).drew none := bar_none (World.grownBy_alloc wr _ none) (grown_drew _)
   obtain ⟨fn, tmps, assign, body, hy, hR⟩ := HY.out (turnsTo p xs k) (x, rightS p k) (wr.alloc (.cells #[.string x.f0, .int .u64 x.f1.f0, .int .u64 x.f1.f1] 26)).drew hokx (HJ.out _ wr _ none HJs.out hg1 (fun r e => by cases e)) (by rw [turnsTo_length]; exact hlt)
   have hy2 : (Instr.yield l #[.agg #[.string x.f0, .int .u64 x.f1.f0, .int .u64 x.f1.f1], .bool (Go.bits .and .u64 (p / 2 ^ k) 1 == 0)]).run Tryd.prog (wr.alloc (.cells #[.string x.f0, .int .u64 x.f1.f0, .int .u64 x.f1.f1] 26)).drew = .ok (.round l fn tmps assign body) (wr.alloc (.cells #[.string x.f0, .int .u64 x.f1.f0, .int .u64 x.f1.f1] 26)).drew := hy
   have hR2 := hR.mono (fun e W' h => (show ∃ b : Bool, e = .returned (.bool b) ∧ Aside0 ((b = true ∧ J (turnsTo p xs k ++ [(x, rightS p k)]) W' ∧ KeepS S (wr.alloc (.cells #[.string x.f0, .int .u64 x.f1.f0, .int .u64 x.f1.f1] 26)).drew W') ∨ (b = false ∧ Jx (turnsTo p xs k ++ [(x, rightS p k)]) W')) from
    h.elim (fun h => ⟨true, h.1, ⟨.inl ⟨rfl, h.2⟩⟩⟩) (fun h => ⟨false, h.1, ⟨.inr ⟨rfl, h.2⟩⟩⟩)))
   clear hy hR
   gi_wp2
   clear hg1 hr2
   gi_region_with (refine hR2.mono ?_; clear hR2 hy2 hx0 hx1 hx2 hp0 b1 p1 p2 hpn hpl; rintro e W3 ⟨b, rfl, HE⟩)
   all_goals
    have HKW := aM' (HK.out.alloc HL.out (.cells #[.string x.f0, .int .u64 x.f1.f0, .int .u64 x.f1.f1] 26))
    have HE2 := aM' (show turnsTo p xs (k + 1) = turnsTo p xs k ++ [(x, rightS p k)] by rw [turnsTo_succ p xs k hlt, HX.out])
    cases b with
    | true =>
     obtain ⟨-, hJ2, hK2⟩ | ⟨h, -⟩ := HE.out
     case inr => exact absurd h (by decide)
     have HJ2 := aM' hJ2
     have HK2 := aM' hK2
     clear hJ2 hK2
     gi_wp2
     exact ⟨⟨k + 1, hlt, rfl, ⟨by rw [HE2.out]; exact HJ2.out⟩, ⟨HKW.out.trans HK2.out⟩⟩, by simp [intOf]; omega⟩
    | false =>
     obtain ⟨h, -⟩ | ⟨-, hJ2⟩ := HE.out
     case inl => exact absurd h (by decide)
     have HJ2 := aM' hJ2
     clear hJ2
     gi_wp2
     refine bodyPost_ret (results_none rfl _ _ _) rfl ?_
     exact ⟨⟨_, rfl⟩, .inr ⟨_, ⟨k + 1, hlt, HE2.out.symm⟩, HJ2.out⟩⟩
  ·
   have b1 : decide ((k : Int) < (xs.length : Int)) = false := decide_eq_false (by omega)
   obtain rfl : k = xs.length := by omega
   gi_wp2
   go_end0
   exact ⟨⟨_, rfl⟩, .inl ⟨_, rfl, HJs.out⟩⟩
end Go.Proofs.YtlmmpncdemblbaaDoor.P
namespace Go.Proofs.YtlmmpncdemblbaaDoor.P
open Go.RowKit Go.Proofs.YtlmmpncdemblbaaDoorW.PrintWords Go.Proofs.YtlmmpncdemblbaaDoorW.PrintLast Go.Proofs.YtlmmpncdemblbaaDoorW.PrintMore
set_option linter.unusedVariables false
set_option linter.unusedSimpArgs false
set_option linter.unnecessarySimpa false
theorem all1.calls (wd : Int) (B : Nat) (x : SNode) (W : World) (hB : W.heap[B]? = some (.cells #[.int .i64 wd] 3 (0, 0))) :
  Calls Tryd.prog 67 #[nodeV x, .pointer (some ⟨B, 0, none⟩)] W fun e W' => e = .returned (.bool (!nodeOf wd x)) ∧ Below W.heap.size W W' := by
 have hc : W.cell? ⟨B, 0, none⟩ = some (.int .i64 wd) := blk_cell hB 0
 have hlt : B < W.heap.size := blk_lt hB
 have hne : B ≠ W.heap.size := Nat.ne_of_lt hlt
 go_enter Tryd.func67, Tryd.ntmps67
 go_wp2_with fail
 refine (node_Of.calls wd x.f0 x.f1.f0 x.f1.f1 (nodeOf wd x) _ (node_Of_eq wd x)).mono ?_
 rintro e w1 ⟨rfl, hb⟩
 go_wp2
 go_ret
 exact ⟨rfl, (below_alloc (Below.refl _ _) _).trans (hb.mono (by simp))⟩
set_option maxRecDepth 100000 in
set_option maxHeartbeats 1000000 in
theorem all.calls (wd : Int) (A : Option Addr) (c : Nat) (l : List SNode) (w : World) (hr : Kd.C kNode w A l.length l) :
  Calls Tryd.prog 34 #[.int .i64 wd, .slice A l.length c] w fun e w' => e = .returned (.bool (decide (1 ≤ wd) && (decide (wd ≤ 32) && l.all (nodeOf wd)))) ∧ Below w.heap.size w w' := by
 have HR := aM' hr
 clear hr
 have e0 : (!l.any fun x => !nodeOf wd x) = l.all (nodeOf wd) := by rw [List.all_eq_not_any_not]
 go_enter Tryd.func34, Tryd.ntmps34
 by_cases h1 : 1 ≤ wd
 ·
  have b1 : decide (1 ≤ wd) = true := decide_eq_true h1
  by_cases h2 : wd ≤ 32
  ·
   have b2 : decide (wd ≤ 32) = true := decide_eq_true h2
   go_wp2_with fail
   have hcb : (w.alloc (.cells #[.int .i64 wd] 3)).heap[w.heap.size]? = some (.cells #[.int .i64 wd] 3 (0, 0)) := blk_new w _
   have hB0 : Below w.heap.size w (w.alloc (.cells #[.int .i64 wd] 3)) := below_alloc (Below.refl _ _) _
   refine (anyNode.calls 67 _ (fun x => !nodeOf wd x) A c l _ (Kd.C_below HR.out hB0) (fun _ _ => enters_of Tryd.func67 (by kernel_rfl) rfl _ _) (fun W x hW => all1.calls wd w.heap.size x W (blk_below hcb hW))).mono ?_
   rintro e w1 ⟨rfl, hb⟩
   have HB1 := aM' (hB0.trans (hb.mono hB0.size))
   clear hb hcb hB0
   go_wp2_with fail
   go_ret
   exact ⟨by simp only [b1, b2, Bool.true_and]; rw [← e0]; rfl, HB1.out⟩
  ·
   have b2 : decide (wd ≤ 32) = false := decide_eq_false h2
   go_wp2_with fail
   go_ret
   exact ⟨by simp [b2], below_alloc (Below.refl _ _) _⟩
 ·
  have b1 : decide (1 ≤ wd) = false := decide_eq_false h1
  go_wp2_with fail
  go_ret
  exact ⟨by simp [b1], below_alloc (Below.refl _ _) _⟩
end Go.Proofs.YtlmmpncdemblbaaDoor.P
namespace Go.Proofs.YtlmmpncdemblbaaDoor.P
open Go.RowKit Go.Proofs.YtlmmpncdemblbaaDoorW.PrintWords Go.Proofs.YtlmmpncdemblbaaDoorW.PrintLast Go.Proofs.YtlmmpncdemblbaaDoorW.PrintMore
set_option linter.unusedVariables false
set_option linter.unusedSimpArgs false
set_option linter.unnecessarySimpa false
attribute [local go_sem] Oper.semAt_some
theorem turns.calls (p : Int) (A : Option Addr) (m c : Nat) (w : World) : Calls Tryd.prog 35 #[.int .u64 p, .slice A m c] w fun e w' => e = .returned (.func (.func 68) #[] #[.pointer (some ⟨w.heap.size + 1, 0, none⟩), .pointer (some ⟨w.heap.size, 0, none⟩)]) ∧ w' = (w.alloc (.cells #[.int .u64 p] 22)).alloc (.cells #[.slice A m c] 27) := by
 go_enter Tryd.func35, Tryd.ntmps35
 go_wp2
 go_ret
 exact ⟨rfl, rfl⟩
def stepI (w : Int) (n : SNode) (x : SNode × Bool) : ByteArray × Int × Int × Int := if x.2 then joinI w n x.1 else joinI w x.1 n
abbrev nodeJ (j : ByteArray × Int × Int × Int) : SNode := ⟨j.1, ⟨j.2.1, j.2.2.1⟩⟩
def climbL (w : Int) : SNode → List (SNode × Bool) → ByteArray × Int × Int × Int
 | n, [] => (n.f0, n.f1.f0, n.f1.f1, 0)
 | n, x :: xs => if (stepI w n x).2.2.2 = 0 then climbL w (nodeJ (stepI w n x)) xs else (⟨#[]⟩, 0, 0, (stepI w n x).2.2.2)
def climbI (w : Int) (n : SNode) (p : Int) (l : List SNode) : ByteArray × Int × Int × Int :=
 if nodeOf w n = true ∧ l.all (nodeOf w) = true then (if 63 < l.length then (⟨#[]⟩, 0, 0, 2) else climbL w n (turnsTo p l l.length)) else (⟨#[]⟩, 0, 0, 70)
def upTo (w : Int) : SNode → List (SNode × Bool) → Option SNode
 | n, [] => some n
 | n, x :: xs => if (stepI w n x).2.2.2 = 0 then upTo w (nodeJ (stepI w n x)) xs else none
theorem climbL_up (w : Int) (rest : List (SNode × Bool)) : ∀ (pre : List (SNode × Bool)) (n st : SNode), upTo w n pre = some st → climbL w n (pre ++ rest) = climbL w st rest
 | [], n, st, h => by cases h; rfl
 | x :: xs, n, st, h => by
  unfold upTo at h
  split at h
  ·
   rename_i h0
   show climbL w n (x :: (xs ++ rest)) = _
   unfold climbL
   rw [if_pos h0]
   have := climbL_up w rest xs _ st h
   rw [this]
   cases rest <;> rfl
  ·
   cases h
theorem upTo_snoc (w : Int) (x : SNode × Bool) : ∀ (pre : List (SNode × Bool)) (n st : SNode), upTo w n pre = some st → (stepI w st x).2.2.2 = 0 → upTo w n (pre ++ [x]) = some (nodeJ (stepI w st x))
 | [], n, st, h, h0 => by cases h; show upTo w n [x] = _; unfold upTo; rw [if_pos h0]; rfl
 | y :: ys, n, st, h, h0 => by
  unfold upTo at h
  split at h
  ·
   rename_i h1
   show upTo w n (y :: (ys ++ [x])) = _
   unfold upTo
   rw [if_pos h1]
   exact upTo_snoc w x ys _ st h h0
  ·
   cases h
theorem turnsTo_pre (p : Int) (l : List SNode) (k : Nat) : ∀ d, ∃ rest, turnsTo p l (k + d) = turnsTo p l k ++ rest
 | 0 => ⟨[], by simp⟩
 | d + 1 => by
  obtain ⟨r, hr⟩ := turnsTo_pre p l k d
  refine ⟨r ++ [(l.getD (k + d) ⟨ByteArray.empty, ⟨0, 0⟩⟩, rightS p (k + d))], ?_⟩
  rw [← List.append_assoc, ← hr]
  simp [turnsTo, ← Nat.add_assoc, List.range_succ]
theorem addI128_ok (a b c d : Int) (ha : 0 ≤ a) (hb : 0 ≤ b) (hc : 0 ≤ c) (hd : 0 ≤ d) : 0 ≤ (addI128 a b c d).1 ∧ (addI128 a b c d).1 < 18446744073709551616 ∧ 0 ≤ (addI128 a b c d).2.1 ∧ (addI128 a b c d).2.1 < 18446744073709551616 := by
 unfold addI128
 split
 ·
  refine ⟨?_, ?_, ?_, ?_⟩ <;> dsimp only <;> omega
 ·
  refine ⟨?_, ?_, ?_, ?_⟩ <;> dsimp only <;> omega
theorem joinI_ok (w : Int) (l r : SNode) (ul : OkU l.f1) (ur : OkU r.f1) : OkU (nodeJ (joinI w l r)).f1 := by
 have h := addI128_ok l.f1.f0 l.f1.f1 r.f1.f0 r.f1.f1 ul.h0.1 ul.h1.1 ur.h0.1 ur.h1.1
 unfold joinI
 split
 ·
  split
  ·
   exact ⟨⟨h.1, h.2.1⟩, ⟨h.2.2.1, h.2.2.2⟩⟩
  ·
   exact ⟨⟨by simp, by simp⟩, ⟨by simp, by simp⟩⟩
 ·
  exact ⟨⟨by simp, by simp⟩, ⟨by simp, by simp⟩⟩
abbrev nodeA (n : SNode) : Array Value := #[.string n.f0, .int .u64 n.f1.f0, .int .u64 n.f1.f1]
structure Clim (w : World) (wd : Int) (st r2 : SNode) (r3 : Int) (W : World) : Prop where
 h0 : W.heap[w.heap.size]? = some (.cells #[.int .i64 wd] 3 (0, 0))
 h1 : W.heap[w.heap.size + 1]? = some (.cells (nodeA st) 26 (0, 0))
 h2 : W.heap[w.heap.size + 1 + 1]? = some (.cells (nodeA r2) 26 (0, 0))
 h3 : W.heap[w.heap.size + 1 + 1 + 1]? = some (.cells #[.int .i64 r3] 29 (0, 0))
 hB : Below w.heap.size w W
theorem Clim.lt {w W : World} {wd r3 : Int} {st r2 : SNode} (h : Clim w wd st r2 r3 W) : w.heap.size + 1 + 1 + 1 < W.heap.size := blk_lt h.h3
theorem Clim.below {w W W' : World} {wd r3 : Int} {st r2 : SNode} (h : Clim w wd st r2 r3 W) (hb : Below W.heap.size W W') : Clim w wd st r2 r3 W' :=
 ⟨blk_below h.h0 hb, blk_below h.h1 hb, blk_below h.h2 hb, blk_below h.h3 hb, h.hB.trans (hb.mono h.hB.size)⟩
theorem Clim.own {w X Y : World} {wd r3 : Int} {st r2 : SNode} {B : Nat} {row : Option Nat} (h : Clim w wd st r2 r3 X) (hg : X.grownBy Y row) (hlt : w.heap.size + 1 + 1 + 1 < B) (hr : ∀ r, row = some r → B ≤ r) : Clim w wd st r2 r3 Y := by
 have hl := h.lt
 have hk : ∀ k, k ≤ w.heap.size + 1 + 1 + 1 → Y.heap[k]? = X.heap[k]? := fun k hk => hg.block k (by omega) (fun e => by have := hr k e.symm; omega)
 exact ⟨(hk _ (by omega)).trans h.h0, (hk _ (by omega)).trans h.h1, (hk _ (by omega)).trans h.h2, (hk _ (by omega)).trans h.h3, ⟨hg.os.trans h.hB.os, hg.tape.trans h.hB.tape, hg.output.trans h.hB.output, Nat.le_trans h.hB.size hg.size, fun i hi => (hk i (by omega)).trans (h.hB.block i hi)⟩⟩
theorem climb_results (tmps : Array Value) (W : World) (g2 g3 : Nat) (x y z e : Value) (h8 : tmps.getD 8 undef = .pointer (some ⟨g2, 0, none⟩)) (h9 : tmps.getD 9 undef = .pointer (some ⟨g3, 0, none⟩)) (hg2 : W.heap[g2]? = some (.cells #[x, y, z] 26 (0, 0))) (hg3 : W.heap[g3]? = some (.cells #[e] 29 (0, 0))) :
  (results Tryd.f14 tmps).run Tryd.prog W = .ok (.tuple #[.agg #[x, y, z], e]) W := by
 have h8' : tmps[8]?.getD undef = .pointer (some ⟨g2, 0, none⟩) := by simpa using h8
 have h9' : tmps[9]?.getD undef = .pointer (some ⟨g3, 0, none⟩) := by simpa using h9
 have hr : Tryd.f14.results = #[.cell 8 26, .cell 9 29] := rfl
 have hc : W.cell? ⟨g3, 0, none⟩ = some e := blk_cell hg3 0
 have h1 := run_loadVar_row W g2 26 26 #[x, y, z] (0, 0) _ hg2 Tryd.underlying26 rfl (by kernel_rfl)
 have hu := Tryd.underlying29
 have h2 : (loadVar 29 ⟨g3, 0, none⟩).run Tryd.prog W = .ok e W := by
  go_simp
 simp [results, hr, h8', h9', asAddr, h1, h2]
theorem Clim.put {w W : World} {wd r3 : Int} {st r2 : SNode} (h : Clim w wd st r2 r3 W) (x : SNode) (e : Int) :
  Clim w wd st x e ((((W.setCell ⟨w.heap.size + 1 + 1, 0, none⟩ (.string x.f0)).setCell ⟨w.heap.size + 1 + 1, 1, none⟩ (.int .u64 x.f1.f0)).setCell ⟨w.heap.size + 1 + 1, 2, none⟩ (.int .u64 x.f1.f1)).setCell ⟨w.heap.size + 1 + 1 + 1, 0, none⟩ (.int .i64 e)) := by
 have a1 := blk_put (cs' := nodeA ⟨x.f0, r2.f1⟩) h.h2 0 (.string x.f0) rfl
 have a2 := blk_put (cs' := nodeA ⟨x.f0, ⟨x.f1.f0, r2.f1.f1⟩⟩) a1 1 (.int .u64 x.f1.f0) rfl
 have a3 := blk_put (cs' := nodeA x) a2 2 (.int .u64 x.f1.f1) rfl
 exact ⟨blk_far (blk_far (blk_far (blk_far h.h0 (by (try dsimp only); omega) _) (by (try dsimp only); omega) _) (by (try dsimp only); omega) _) (by (try dsimp only); omega) _, blk_far (blk_far (blk_far (blk_far h.h1 (by (try dsimp only); omega) _) (by (try dsimp only); omega) _) (by (try dsimp only); omega) _) (by (try dsimp only); omega) _,
  blk_far a3 (by (try dsimp only); omega) _, blk_put (blk_far (blk_far (blk_far h.h3 (by (try dsimp only); omega) _) (by (try dsimp only); omega) _) (by (try dsimp only); omega) _) 0 (.int .i64 e) rfl,
  below_set (below_set (below_set (below_set h.hB (by (try dsimp only); omega)) (by (try dsimp only); omega)) (by (try dsimp only); omega)) (by (try dsimp only); omega)⟩
theorem Clim.step {w W : World} {wd r3 : Int} {st r2 : SNode} (h : Clim w wd st r2 r3 W) (x : SNode) :
  Clim w wd x r2 r3 (((W.setCell ⟨w.heap.size + 1, 0, none⟩ (.string x.f0)).setCell ⟨w.heap.size + 1, 1, none⟩ (.int .u64 x.f1.f0)).setCell ⟨w.heap.size + 1, 2, none⟩ (.int .u64 x.f1.f1)) := by
 have a1 := blk_put (cs' := nodeA ⟨x.f0, st.f1⟩) h.h1 0 (.string x.f0) rfl
 have a2 := blk_put (cs' := nodeA ⟨x.f0, ⟨x.f1.f0, st.f1.f1⟩⟩) a1 1 (.int .u64 x.f1.f0) rfl
 have a3 := blk_put (cs' := nodeA x) a2 2 (.int .u64 x.f1.f1) rfl
 exact ⟨blk_far (blk_far (blk_far h.h0 (by (try dsimp only); omega) _) (by (try dsimp only); omega) _) (by (try dsimp only); omega) _, a3, blk_far (blk_far (blk_far h.h2 (by (try dsimp only); omega) _) (by (try dsimp only); omega) _) (by (try dsimp only); omega) _, blk_far (blk_far (blk_far h.h3 (by (try dsimp only); omega) _) (by (try dsimp only); omega) _) (by (try dsimp only); omega) _,
  below_set (below_set (below_set h.hB (by (try dsimp only); omega)) (by (try dsimp only); omega)) (by (try dsimp only); omega)⟩
theorem climb_ret {w W : World} {wd r3 : Int} {st r2 : SNode} {tmps : Array Value} {R : Ending → World → Prop} (h : Clim w wd st r2 r3 W) (h8 : tmps.getD 8 undef = .pointer (some ⟨w.heap.size + 1 + 1, 0, none⟩)) (h9 : tmps.getD 9 undef = .pointer (some ⟨w.heap.size + 1 + 1 + 1, 0, none⟩))
  (hR : R (.returned (.tuple #[nodeV r2, .int .i64 r3])) W) : bodyPostM Fence.wide 3 Tryd.prog Tryd.f14 R .ret { tmps := tmps, defers := [] } W :=
 ⟨_, climb_results _ _ _ _ _ _ _ _ h8 h9 h.h2 h.h3, hR⟩
theorem blk_res {W : World} {B2 B3 D : Nat} {o : Obj} (h : W.heap[D]? = some o) (h2 : D ≠ B2) (h3 : D ≠ B3) (a b c d : Value) :
  ((((W.setCell ⟨B2, 0, none⟩ a).setCell ⟨B2, 1, none⟩ b).setCell ⟨B2, 2, none⟩ c).setCell ⟨B3, 0, none⟩ d).heap[D]? = some o := by
 rw [Below.heap_setCell _ _ _ _ h3, Below.heap_setCell _ _ _ _ h2, Below.heap_setCell _ _ _ _ h2, Below.heap_setCell _ _ _ _ h2]
 exact h
theorem climb_retD {w W : World} {wd r3 : Int} {st r2 : SNode} {tmps : Array Value} {R : Ending → World → Prop} {D : Nat} (h : Clim w wd st r2 r3 W) (hD : w.heap.size + 1 + 1 + 1 < D) (hdf : W.heap[D]? = some (.deferred (some []))) (h8 : tmps.getD 8 undef = .pointer (some ⟨w.heap.size + 1 + 1, 0, none⟩)) (h9 : tmps.getD 9 undef = .pointer (some ⟨w.heap.size + 1 + 1 + 1, 0, none⟩))
  (hR : ∀ W', Below w.heap.size w W' → R (.returned (.tuple #[nodeV r2, .int .i64 r3])) W') : bodyPostM Fence.wide 3 Tryd.prog Tryd.f14 R .ret { tmps := tmps, defers := [{ target := .collected D, args := #[] }] } W := by
 refine ⟨by simp, .inl ⟨_, _, rfl, run_takeDeferred hdf, ?_⟩⟩
 refine ⟨_, climb_results _ _ _ _ _ _ _ _ h8 h9 ((World.putObj_heap_other (by omega)).trans h.h2) ((World.putObj_heap_other (by omega)).trans h.h3), hR _ ?_⟩
 exact ⟨h.hB.os, h.hB.tape, h.hB.output, by simpa using h.hB.size, fun i hi => (World.putObj_heap_other (by omega)).trans (h.hB.block i hi)⟩
theorem put3 {W : World} {g : Nat} {z : SNode} (h : W.heap[g]? = some (.cells (nodeA z) 26 (0, 0))) (x : SNode) :
  (((W.setCell ⟨g, 0, none⟩ (.string x.f0)).setCell ⟨g, 1, none⟩ (.int .u64 x.f1.f0)).setCell ⟨g, 2, none⟩ (.int .u64 x.f1.f1)).heap[g]? = some (.cells (nodeA x) 26 (0, 0)) := by
 have a1 := blk_put (cs' := nodeA ⟨x.f0, z.f1⟩) h 0 (.string x.f0) rfl
 have a2 := blk_put (cs' := nodeA ⟨x.f0, ⟨x.f1.f0, z.f1.f1⟩⟩) a1 1 (.int .u64 x.f1.f0) rfl
 exact blk_put (cs' := nodeA x) a2 2 (.int .u64 x.f1.f1) rfl
theorem far3 {W : World} {g k : Nat} {o : Obj} (h : W.heap[k]? = some o) (hn : k ≠ g) (a b c : Value) : (((W.setCell ⟨g, 0, none⟩ a).setCell ⟨g, 1, none⟩ b).setCell ⟨g, 2, none⟩ c).heap[k]? = some o := by
 rw [Below.heap_setCell _ _ _ _ hn, Below.heap_setCell _ _ _ _ hn, Below.heap_setCell _ _ _ _ hn]
 exact h
theorem below3 {W V : World} (h : Below W.heap.size W V) {g : Nat} (hg : W.heap.size ≤ g) (a b c : Value) : Below W.heap.size W (((V.setCell ⟨g, 0, none⟩ a).setCell ⟨g, 1, none⟩ b).setCell ⟨g, 2, none⟩ c) :=
 below_set (below_set (below_set h hg) hg) hg
structure Two (W : World) (b12 b13 : Nat) (x s : SNode) (W' : World) : Prop where
 ne : b12 ≠ b13
 l12 : W.heap.size ≤ b12
 l13 : W.heap.size ≤ b13
 hB : Below W.heap.size W W'
 h12 : W'.heap[b12]? = some (.cells (nodeA x) 26 (0, 0))
 h13 : W'.heap[b13]? = some (.cells (nodeA s) 26 (0, 0))
theorem Two.put {W V : World} {b12 b13 : Nat} {x s : SNode} (h : Two W b12 b13 x s V) (x' s' : SNode) :
  Two W b12 b13 x' s' ((((((V.setCell ⟨b12, 0, none⟩ (.string x'.f0)).setCell ⟨b12, 1, none⟩ (.int .u64 x'.f1.f0)).setCell ⟨b12, 2, none⟩ (.int .u64 x'.f1.f1)).setCell ⟨b13, 0, none⟩ (.string s'.f0)).setCell ⟨b13, 1, none⟩ (.int .u64 s'.f1.f0)).setCell ⟨b13, 2, none⟩ (.int .u64 s'.f1.f1)) :=
 ⟨h.ne, h.l12, h.l13, below3 (below3 h.hB h.l12 _ _ _) h.l13 _ _ _, far3 (put3 h.h12 x') h.ne _ _ _, put3 (far3 h.h13 (Ne.symm h.ne) _ _ _) s'⟩
theorem climb_twoA (W : World) (x s : SNode) : Two W W.heap.size (W.heap.size + 1) x s ((W.alloc (.cells #[.string x.f0, .int .u64 x.f1.f0, .int .u64 x.f1.f1] 26)).alloc (.cells #[.string s.f0, .int .u64 s.f1.f0, .int .u64 s.f1.f1] 26)).drew := by
 have h0 := blk_drew (blk_alloc (blk_new W (.cells (nodeA x) 26)) (.cells (nodeA s) 26))
 have h1 := blk_new (W.alloc (.cells (nodeA x) 26)) (.cells (nodeA s) 26)
 rw [World.size_alloc] at h1
 exact ⟨by omega, by omega, by omega, below_drew (below_alloc (below_alloc (Below.refl _ _) _) _), h0, blk_drew h1⟩
theorem climb_twoB (W : World) (x s : SNode) : Two W (W.heap.size + 1) W.heap.size x s ((W.alloc (.cells #[.string s.f0, .int .u64 s.f1.f0, .int .u64 s.f1.f1] 26)).alloc (.cells #[.string x.f0, .int .u64 x.f1.f0, .int .u64 x.f1.f1] 26)).drew := by
 have h := climb_twoA W s x
 exact ⟨by omega, by omega, by omega, h.hB, h.h13, h.h12⟩
abbrev OkX := { x : SNode × Bool // OkU x.1.f1 }
def climbS (w2 : World) (A : Option Addr) (l : List SNode) (k : Nat) : Prop := k = w2.heap.size + 1 ∨ k = w2.heap.size ∨ (0 < l.length ∧ ∃ a, A = some a ∧ k = a.block)
theorem nodes_block {w : World} {a : Addr} {l : List SNode} (h : Kd.C kNode w (some a) l.length l) (h0 : 0 < l.length) : a.block < w.heap.size := by
 obtain ⟨ad, e, hx, -, -⟩ := at_TNode h 0 (by omega) (by omega)
 cases e
 have := bL' _ _ hx
 unfold Addr.add at this
 split at this <;> exact this
set_option maxRecDepth 100000 in
set_option maxHeartbeats 2000000 in
theorem climb.calls (wd : Int) (n : SNode) (p : Int) (A : Option Addr) (c : Nat) (l : List SNode) (w : World) (hK : Laid w) (hr : Kd.C kNode w A l.length l) (hp : 0 ≤ p) (un : OkU n.f1) (ul : ∀ x ∈ l, OkU x.f1) :
  Calls Tryd.prog 14 #[.int .i64 wd, nodeV n, .int .u64 p, .slice A l.length c] w fun e w' => e = .returned (.tuple #[nodeV (nodeJ (climbI wd n p l)), .int .i64 (climbI wd n p l).2.2.2]) ∧ Below w.heap.size w w' := by
 have HR := aM' hr
 have HK := aM' hK
 have UN := aM' un
 have UL := aM' ul
 clear hr hK un ul
 refine (callsIn_wide (n := 3)).1 ?_
 refine callsIn_of_wp_marks Tryd.func14 rfl trivial ?_ rfl
 simp only [Tryd.ntmps14, List.size_toArray, List.length_cons, List.length_nil, Nat.reduceAdd, Nat.reduceSub, Array.replicate_succ, Array.replicate_zero, List.push_toArray, List.append_toArray, List.nil_append, List.cons_append]
 gi_wp2_with fail
 refine ⟨trivial, ?_⟩
 refine (callsIn_wide.2 (node_Of.calls wd n.f0 n.f1.f0 n.f1.f1 (nodeOf wd n) _ (node_Of_eq wd n))).mono ?_
 rintro e w1 ⟨rfl, hb⟩
 have hB0 : Below w.heap.size w w1 := (below_alloc (below_alloc (below_alloc (below_alloc (Below.refl _ _) _) _) _) _).trans (hb.mono (by simp; omega))
 have hw0 : w1.heap[w.heap.size]? = some (.cells #[.int .i64 wd] 3 (0, 0)) := blk_below (blk_alloc (blk_alloc (blk_alloc (blk_new w _) _) _) _) hb
 have hw1 : w1.heap[w.heap.size + 1]? = some (.cells #[.string n.f0, .int .u64 n.f1.f0, .int .u64 n.f1.f1] 26 (0, 0)) := by
  refine blk_below (blk_alloc (blk_alloc ?_ _) _) hb
  have := blk_new (w.alloc (.cells #[.int .i64 wd] 3)) (.cells #[.string n.f0, .int .u64 n.f1.f0, .int .u64 n.f1.f1] 26)
  rwa [World.size_alloc] at this
 have hw2 : w1.heap[w.heap.size + 1 + 1]? = some (.cells #[.string ⟨#[]⟩, .int .u64 0, .int .u64 0] 26 (0, 0)) := by
  refine blk_below (blk_alloc ?_ _) hb
  have := blk_new ((w.alloc (.cells #[.int .i64 wd] 3)).alloc (.cells #[.string n.f0, .int .u64 n.f1.f0, .int .u64 n.f1.f1] 26)) (.cells #[.string ⟨#[]⟩, .int .u64 0, .int .u64 0] 26)
  rwa [World.size_alloc, World.size_alloc] at this
 have hw3 : w1.heap[w.heap.size + 1 + 1 + 1]? = some (.cells #[.int .i64 0] 29 (0, 0)) := by
  refine blk_below ?_ hb
  have := blk_new (((w.alloc (.cells #[.int .i64 wd] 3)).alloc (.cells #[.string n.f0, .int .u64 n.f1.f0, .int .u64 n.f1.f1] 26)).alloc (.cells #[.string ⟨#[]⟩, .int .u64 0, .int .u64 0] 26)) (.cells #[.int .i64 0] 29)
  rwa [World.size_alloc, World.size_alloc, World.size_alloc] at this
 have hC : Clim w wd n ⟨⟨#[]⟩, ⟨0, 0⟩⟩ 0 w1 := ⟨hw0, hw1, hw2, hw3, hB0⟩
 have HC := aM' hC
 have c0 : w1.cell? ⟨w.heap.size, 0, none⟩ = some (.int .i64 wd) := blk_cell hw0 0
 have cr0 : w1.cell? ⟨w.heap.size + 1 + 1, 0, none⟩ = some (.string ⟨#[]⟩) := blk_cell hw2 0
 have cr1 : w1.cell? ⟨w.heap.size + 1 + 1, 1, none⟩ = some (.int .u64 0) := blk_cell hw2 1
 have cr2 : w1.cell? ⟨w.heap.size + 1 + 1, 2, none⟩ = some (.int .u64 0) := blk_cell hw2 2
 have fr : ∀ i, w1.frozen? ⟨w.heap.size + 1 + 1, i, none⟩ = false := fun i => blk_frozen hw2 i
 have ce : w1.cell? ⟨w.heap.size + 1 + 1 + 1, 0, none⟩ = some (.int .i64 0) := blk_cell hw3 0
 have fe : ∀ i, w1.frozen? ⟨w.heap.size + 1 + 1 + 1, i, none⟩ = false := fun i => blk_frozen hw3 i
 clear hb hB0 hw0 hw1 hw2 hw3 hC
 cases hof : nodeOf wd n with
 | false =>
  have HI := aM' (show climbI wd n p l = (⟨#[]⟩, 0, 0, 70) by unfold climbI; rw [if_neg (by rw [hof]; simp)])
  gi_wp2_with (refine ⟨trivial, ?_⟩)
  rw [HI.out]
  exact climb_ret (HC.out.put ⟨⟨#[]⟩, ⟨0, 0⟩⟩ 70) rfl rfl ⟨rfl, (HC.out.put ⟨⟨#[]⟩, ⟨0, 0⟩⟩ 70).hB⟩
 | true =>
  gi_wp2_with fail
  refine ⟨trivial, ?_⟩
  refine (callsIn_wide.2 (all.calls wd A c l _ (Kd.C_below HR.out HC.out.hB))).mono ?_
  rintro e w2 ⟨rfl, hb⟩
  have h1 : (decide (1 ≤ wd) && (decide (wd ≤ 32) && l.all (nodeOf wd))) = l.all (nodeOf wd) := by
   obtain ⟨h1, h2, _⟩ := nodeOf_w hof
   simp [h1, h2]
  rw [h1]
  have hC2 := HC.out.below hb
  clear HC c0 cr0 cr1 cr2 fr ce fe h1 hb
  have HC := aM' hC2
  have cr0 : w2.cell? ⟨w.heap.size + 1 + 1, 0, none⟩ = some (.string ⟨#[]⟩) := blk_cell hC2.h2 0
  have cr1 : w2.cell? ⟨w.heap.size + 1 + 1, 1, none⟩ = some (.int .u64 0) := blk_cell hC2.h2 1
  have cr2 : w2.cell? ⟨w.heap.size + 1 + 1, 2, none⟩ = some (.int .u64 0) := blk_cell hC2.h2 2
  have fr : ∀ i, w2.frozen? ⟨w.heap.size + 1 + 1, i, none⟩ = false := fun i => blk_frozen hC2.h2 i
  have ce : w2.cell? ⟨w.heap.size + 1 + 1 + 1, 0, none⟩ = some (.int .i64 0) := blk_cell hC2.h3 0
  have fe : ∀ i, w2.frozen? ⟨w.heap.size + 1 + 1 + 1, i, none⟩ = false := fun i => blk_frozen hC2.h3 i
  clear hC2
  cases hal : l.all (nodeOf wd) with
  | false =>
   have HI := aM' (show climbI wd n p l = (⟨#[]⟩, 0, 0, 70) by unfold climbI; rw [if_neg (by rw [hal]; simp)])
   gi_wp2_with (refine ⟨trivial, ?_⟩)
   rw [HI.out]
   exact climb_ret (HC.out.put ⟨⟨#[]⟩, ⟨0, 0⟩⟩ 70) rfl rfl ⟨rfl, (HC.out.put ⟨⟨#[]⟩, ⟨0, 0⟩⟩ 70).hB⟩
  | true =>
   by_cases h63 : 63 < l.length
   ·
    have b1 : decide (63 < (l.length : Int)) = true := decide_eq_true (by omega)
    have HI := aM' (show climbI wd n p l = (⟨#[]⟩, 0, 0, 2) by unfold climbI; rw [if_pos ⟨hof, hal⟩, if_pos h63])
    gi_wp2_with (refine ⟨trivial, ?_⟩)
    rw [HI.out]
    exact climb_ret (HC.out.put ⟨⟨#[]⟩, ⟨0, 0⟩⟩ 2) rfl rfl ⟨rfl, (HC.out.put ⟨⟨#[]⟩, ⟨0, 0⟩⟩ 2).hB⟩
   ·
    have b1 : decide (63 < (l.length : Int)) = false := decide_eq_false (by omega)
    have HI := aM' (show climbI wd n p l = climbL wd n (turnsTo p l l.length) by unfold climbI; rw [if_pos ⟨hof, hal⟩, if_neg h63])
    gi_wp2_with fail
    refine ⟨trivial, ?_⟩
    refine (callsIn_wide.2 (turns.calls p A l.length c w2)).mono ?_
    rintro e w3 ⟨rfl, hw3⟩
    clear cr0 cr1 cr2 fr ce fe b1
    have hP : w3.heap[w2.heap.size]? = some (.cells #[.int .u64 p] 22 (0, 0)) := by rw [hw3]; exact blk_alloc (blk_new w2 _) _
    have hS : w3.heap[w2.heap.size + 1]? = some (.cells #[.slice A l.length c] 27 (0, 0)) := by
     rw [hw3]
     have := blk_new (w2.alloc (.cells #[.int .u64 p] 22)) (.cells #[.slice A l.length c] 27)
     rwa [World.size_alloc] at this
    have hC3 : Clim w wd n ⟨⟨#[]⟩, ⟨0, 0⟩⟩ 0 w3 := by rw [hw3]; exact HC.out.below (below_alloc (below_alloc (Below.refl _ _) _) _)
    have hz3 : w3.heap.size = w2.heap.size + 2 := by rw [hw3]; simp
    have hlt2 := HC.out.lt
    have HP := aM' hP
    have HS := aM' hS
    have HC3 := aM' hC3
    have HZ := aM' hz3
    have HL := aM' hlt2
    have HH := aM' h63
    clear hw3 hP hS hC3 hz3 hlt2 HC h63
    have HLT : ∀ k, climbS w2 A l k → k < w3.heap.size := by
     rintro k (rfl | rfl | ⟨h0, a, rfl, rfl⟩)
     ·
      rw [HZ.out]; omega
     ·
      rw [HZ.out]; omega
     ·
      exact lL' (nodes_block HR.out h0) HC3.out.hB.size
    have HFAR : ∀ k, climbS w2 A l k → k ≠ w.heap.size + 1 := by
     rintro k (rfl | rfl | ⟨h0, a, rfl, rfl⟩)
     ·
      have := HL.out; omega
     ·
      have := HL.out; omega
     ·
      have := nodes_block HR.out h0; omega
    have HLT := aM' HLT
    have HFAR := aM' HFAR
    gi_wp2_with fail
    refine wpIn_rangeFunc_ownH (α := OkX) (n := 3) rfl (by omega) (gf := 68) (lb := #[.pointer (some ⟨w2.heap.size + 1, 0, none⟩), .pointer (some ⟨w2.heap.size, 0, none⟩)]) rfl trivial (enters_of Tryd.func68 (by kernel_rfl) rfl) (encs := fun x => turnV x.1) (Kp := KeepS (climbS w2 A l))
     (S := fun xs => xs.map Subtype.val = turnsTo p l l.length) (Sp := fun pre => ∃ k, k ≤ l.length ∧ pre.map Subtype.val = turnsTo p l k) (N := l.length) (w0 := w3) ?hseq (fun h k => KeepS.trans h k) ?hKb (Below.refl _ _) (fun _ => rfl)
     (fun pre W => ∃ st, upTo wd n (pre.map Subtype.val) = some st ∧ OkU st.f1 ∧ Clim w wd st ⟨⟨#[]⟩, ⟨0, 0⟩⟩ 0 W ∧ w3.heap.size ≤ W.heap.size)
     (fun c pre W => c = .ret ∧ ∃ pre0 x st st', pre.map Subtype.val = pre0 ++ [x] ∧ upTo wd n pre0 = some st ∧ (stepI wd st x).2.2.2 ≠ 0 ∧ Clim w wd st' ⟨⟨#[]⟩, ⟨0, 0⟩⟩ (stepI wd st x).2.2.2 W)
     ?hI ?hIx ⟨n, rfl, UN.out, HC3.out, Nat.le_refl _⟩
     (fun x a' W => ∃ bx, w3.heap.size ≤ bx ∧ W.heap[bx]? = some (.cells (nodeA x.1.1) 26 (0, 0)) ∧ a' = ({ tmps := #[.int .i64 wd, nodeV n, .int .u64 p, .slice A l.length c, .pointer (some ⟨w.heap.size, 0, none⟩), .pointer (some ⟨w.heap.size + 1, 0, none⟩), undef, undef, .pointer (some ⟨w.heap.size + 1 + 1, 0, none⟩), .pointer (some ⟨w.heap.size + 1 + 1 + 1, 0, none⟩), .pointer (some ⟨bx, 0, none⟩), .bool x.1.2, undef, undef, undef, undef, .bool false, .int .i64 wd, .agg #[.string n.f0, .int .u64 n.f1.f0, .int .u64 n.f1.f1], .bool true, .bool false, .bool false, .int .i64 wd, .slice A l.length c, .bool true, .bool false, .bool false, undef, .bool false, .slice A l.length c, .int .i64 (l.length : Int), .bool false, undef, .int .u64 p, .slice A l.length c, .func (.func 68) #[] #[.pointer (some ⟨w2.heap.size + 1, 0, none⟩), .pointer (some ⟨w2.heap.size, 0, none⟩)], nodeV x.1.1, .bool x.1.2, undef, undef, undef, undef, undef, undef, undef, undef, undef, undef, undef, undef, undef, undef, undef, undef, undef, undef], defers := [] } : Act)) ?hAx ?assign ?body ?done ?stop
    case hKb =>
     intro W l2 o o' hl2 ho hc hw k hk
     have := HLT.out k hk
     exact World.putObj_heap_other (by omega)
    case hI =>
     rintro s X Y row ⟨st, h1, h2, h3, h4⟩ hg hr
     exact ⟨st, h1, h2, h3.own hg (by rw [HZ.out]; have := HL.out; omega) (fun r e => (hr r e).1), Nat.le_trans h4 hg.size⟩
    case hIx =>
     rintro c2 s X Y row ⟨rfl, pre0, x, st, st', h1, h2, h3, h4⟩ hg hr
     exact ⟨rfl, pre0, x, st, st', h1, h2, h3, h4.own hg (by rw [HZ.out]; have := HL.out; omega) (fun r e => (hr r e).1)⟩
    case hAx =>
     rintro x a' s X Y row ⟨bx, h1, h2, h3⟩ hg hr
     refine ⟨bx, h1, (hg.block bx (blk_lt h2) (fun e => ?_)).trans h2, h3⟩
     obtain ⟨-, o, ho, hc⟩ := hr bx e.symm
     rw [h2] at ho; cases ho; cases hc
    case hseq =>
     intro l2 J Jx W hW hJ hJx hY h0
     refine (turns1_in Fence.wide 2 trivial rfl (by omega) l2 (w2.heap.size + 1) w2.heap.size W.heap.size p hp A c l (by have := HH.out; omega) (climbS w2 A l) (.inl rfl) (.inr (.inl rfl)) (fun h0 a ha => .inr (.inr ⟨h0, a, ha, rfl⟩)) (fun x => OkU x.f1) UL.out
      (fun pre W => ∃ pre' : List OkX, pre'.map Subtype.val = pre ∧ J pre' W) (fun pre W => ∃ pre' : List OkX, pre'.map Subtype.val = pre ∧ Jx pre' W)
      (fun s X Y row ⟨pre', e, h⟩ hg hr => ⟨pre', e, hJ _ _ _ row h hg hr⟩) ?_ W (blk_below HS.out hW) (blk_below HP.out hW) (Kd.C_below HR.out (HC3.out.hB.trans (hW.mono HC3.out.hB.size))) (fun k hk => lL' (HLT.out k hk) hW.size) ⟨[], rfl, h0⟩).mono ?_
     ·
      rintro pre x W1 hok ⟨pre', rfl, hj⟩ hlen
      obtain ⟨fn, tmps, asg, bd, hy, hR⟩ := hY pre' ⟨x, hok⟩ W1 hj (by simpa using hlen)
      refine ⟨fn, tmps, asg, bd, hy, hR.mono ?_⟩
      rintro e W2 (⟨rfl, h1, h2⟩ | ⟨rfl, h1⟩)
      ·
       exact .inl ⟨rfl, ⟨_, by simp, h1⟩, h2⟩
      ·
       exact .inr ⟨rfl, ⟨_, by simp, h1⟩⟩
     ·
      rintro e W2 ⟨hv, ⟨ys, rfl, ys', e1, h1⟩ | ⟨pre, ⟨k, hk, rfl⟩, pre', e1, h1⟩⟩
      ·
       exact ⟨hv, .inl ⟨ys', e1, h1⟩⟩
      ·
       exact ⟨hv, .inr ⟨pre', ⟨k, hk, e1⟩, h1⟩⟩
    case assign =>
     rintro l2 pre x W K ⟨st, hu, hok, hC, hz⟩ hK
     gi_wp2
     have hg := World.grownBy_alloc W (.cells (nodeA x.1.1) 26) none
     refine hK _ _ (KeepsFrom.of_grownBy hg (fun j e => by cases e)) (fun k hk => hg.block k (lL' (HLT.out k hk) hz) (by simp)) ⟨st, hu, hok, hC.below (below_alloc (Below.refl _ _) _), by simp; omega⟩ ⟨W.heap.size, hz, blk_new W _, rfl⟩
    case body =>
     rintro l2 pre x a' W hl2 - ⟨st, hu, hok, hC, hz⟩ ⟨bx, hbx, hb, rfl⟩ hlen
     obtain ⟨B1, hB1⟩ : ∃ B1, w.heap.size + 1 = B1 := ⟨_, rfl⟩
     have cn0 : W.cell? ⟨B1, 0, none⟩ = some (.string st.f0) := by rw [← hB1]; exact blk_cell hC.h1 0
     have cn1 : W.cell? ⟨B1, 1, none⟩ = some (.int .u64 st.f1.f0) := by rw [← hB1]; exact blk_cell hC.h1 1
     have cn2 : W.cell? ⟨B1, 2, none⟩ = some (.int .u64 st.f1.f1) := by rw [← hB1]; exact blk_cell hC.h1 2
     have cs0 : W.cell? ⟨bx, 0, none⟩ = some (.string x.1.1.f0) := blk_cell hb 0
     have cs1 : W.cell? ⟨bx, 1, none⟩ = some (.int .u64 x.1.1.f1.f0) := blk_cell hb 1
     have cs2 : W.cell? ⟨bx, 2, none⟩ = some (.int .u64 x.1.1.f1.f1) := blk_cell hb 2
     have hlb : bx < W.heap.size := blk_lt hb
     have hlw : B1 < W.heap.size := by rw [← hB1]; exact blk_lt hC.h1
     have q1 : bx ≠ W.heap.size := by omega
     have q2 : bx ≠ W.heap.size + 1 := by omega
     have q3 : B1 ≠ W.heap.size := by omega
     have q4 : B1 ≠ W.heap.size + 1 := by omega
     have HU := aM' hu
     have HOK := aM' hok
     have HC := aM' hC
     have HZZ := aM' hz
     have HBX := aM' hbx
     have HBC := aM' hb
     have HB1 := aM' hB1
     clear hu hok hC hz hbx hb hlen
     rw [hB1]
     clear hB1
     gi_upto_region 8 with (fail)
     refine wpIn_mono (Q := fun e a' W' => e = .normal ∧ ∃ b12 b13, a' = ({ tmps := #[.int .i64 wd, nodeV n, .int .u64 p, .slice A l.length c, .pointer (some ⟨w.heap.size, 0, none⟩), .pointer (some ⟨B1, 0, none⟩), undef, undef, .pointer (some ⟨B1 + 1, 0, none⟩), .pointer (some ⟨B1 + 1 + 1, 0, none⟩), .pointer (some ⟨bx, 0, none⟩), .bool x.1.2, .pointer (some ⟨b12, 0, none⟩), .pointer (some ⟨b13, 0, none⟩), undef, undef, .bool false, .int .i64 wd, .agg #[.string n.f0, .int .u64 n.f1.f0, .int .u64 n.f1.f1], .bool true, .bool false, .bool false, .int .i64 wd, .slice A l.length c, .bool true, .bool false, .bool false, undef, .bool false, .slice A l.length c, .int .i64 (l.length : Int), .bool false, undef, .int .u64 p, .slice A l.length c, .func (.func 68) #[] #[.pointer (some ⟨w2.heap.size + 1, 0, none⟩), .pointer (some ⟨w2.heap.size, 0, none⟩)], nodeV x.1.1, .bool x.1.2, .agg #[.string x.1.1.f0, .int .u64 x.1.1.f1.f0, .int .u64 x.1.1.f1.f1], .agg #[.string st.f0, .int .u64 st.f1.f0, .int .u64 st.f1.f1], undef, undef, undef, undef, undef, undef, undef, undef, undef, undef, undef, undef, undef, undef, undef, undef], defers := [] } : Act) ∧ Two W b12 b13 x.1.1 st W') ?r8 ?k8
     case r8 =>
      clear HU HOK HC HZZ HBX HBC HI HR HK UN UL HP HS HC3 HZ HL HH HLT HFAR
      gi_region_with (fail)
      all_goals
       refine ⟨rfl, _, _, rfl, ?_⟩
       with_reducible first | exact climb_twoA W x.1.1 st | exact climb_twoB W x.1.1 st
     case k8 =>
      clear cn0 cn1 cn2 cs0 cs1 cs2 hlb hlw q1 q2 q3 q4
      rintro e a' W' ⟨rfl, b12, b13, rfl, hT⟩
      obtain ⟨⟨sd, right⟩, hx⟩ := x
      have HT := aM' hT
      have HX := aM' hx
      clear hT
      dsimp only
      cases right with
      | false =>
       have hC5 := HC.out.below HT.out.hB
       have HC5 := aM' hC5
       have g0 : W'.cell? ⟨w.heap.size, 0, none⟩ = some (.int .i64 wd) := blk_cell hC5.h0 0
       have g1 : W'.cell? ⟨b12, 0, none⟩ = some (.string sd.f0) := blk_cell HT.out.h12 0
       have g2 : W'.cell? ⟨b12, 1, none⟩ = some (.int .u64 sd.f1.f0) := blk_cell HT.out.h12 1
       have g3 : W'.cell? ⟨b12, 2, none⟩ = some (.int .u64 sd.f1.f1) := blk_cell HT.out.h12 2
       have g4 : W'.cell? ⟨b13, 0, none⟩ = some (.string st.f0) := blk_cell HT.out.h13 0
       have g5 : W'.cell? ⟨b13, 1, none⟩ = some (.int .u64 st.f1.f0) := blk_cell HT.out.h13 1
       have g6 : W'.cell? ⟨b13, 2, none⟩ = some (.int .u64 st.f1.f1) := blk_cell HT.out.h13 2
       clear hC5
       rcases hj : joinI wd sd st with ⟨r1, r2, r3, r4⟩
       have hs : stepI wd st (sd, false) = (r1, r2, r3, r4) := hj
       have hok2 := joinI_ok wd sd st hx HOK.out
       obtain ⟨kk, hkk⟩ := (join_ev wd sd st hx HOK.out)
       have HJ := aM' (hkk kk (Nat.le_refl _))
       have HS2 := aM' hs
       rw [hj] at HJ hok2
       have HOK2 := aM' hok2
       clear hkk hj hs hok2
       gi_wp2_with fail
       refine ⟨trivial, ?_⟩
       refine (CallsIn.inRound l2 (callsIn_wide.2 (node_Join.calls kk wd sd.f0 sd.f1.f0 sd.f1.f1 st.f0 st.f1.f0 st.f1.f1 r1 r2 r3 r4 _ (HK.out.below HC5.out.hB) HJ.out))).mono ?_
       rintro e w5 ⟨rfl, hb5⟩
       clear g0 g1 g2 g3 g4 g5 g6
       have HB5 := aM' hb5
       have hC6 := HC5.out.below hb5
       have HC6 := aM' hC6
       have hlz := hC6.lt
       have q3 : B1 ≠ w5.heap.size := by have := HB1.out; omega
       have q4 : B1 + 1 ≠ w5.heap.size := by have := HB1.out; omega
       have q5 : B1 + 1 + 1 ≠ w5.heap.size := by have := HB1.out; omega
       have z3 : B1 < w5.heap.size := by have := HB1.out; omega
       have z4 : B1 + 1 < w5.heap.size := by have := HB1.out; omega
       have z5 : B1 + 1 + 1 < w5.heap.size := by have := HB1.out; omega
       have hw3 : B1 + 1 + 1 < w3.heap.size := by have := HB1.out; have := HC3.out.lt; omega
       have HW3 := aM' hw3
       clear hb5 hlz hw3
       by_cases h0 : r4 = 0
       ·
        subst h0
        have cn0 : w5.cell? ⟨B1, 0, none⟩ = some (.string st.f0) := by rw [← HB1.out]; exact blk_cell hC6.h1 0
        have cn1 : w5.cell? ⟨B1, 1, none⟩ = some (.int .u64 st.f1.f0) := by rw [← HB1.out]; exact blk_cell hC6.h1 1
        have cn2 : w5.cell? ⟨B1, 2, none⟩ = some (.int .u64 st.f1.f1) := by rw [← HB1.out]; exact blk_cell hC6.h1 2
        have fn : ∀ i, w5.frozen? ⟨B1, i, none⟩ = false := fun i => by rw [← HB1.out]; exact blk_frozen hC6.h1 i
        clear hC6
        gi_wp2
        have hend := bar_alloc (bar_set (bar_set (bar_set (bar_step (bar_below HT.out.hB B1) HB5.out) (a := ⟨B1, 0, none⟩) (v := .string r1) (.inl rfl)) (a := ⟨B1, 1, none⟩) (v := .int .u64 r2) (.inl rfl)) (a := ⟨B1, 2, none⟩) (v := .int .u64 r3) (.inl rfl)) (.cells #[.string r1, .int .u64 r2, .int .u64 r3] 26)
        change KeepsFrom _ W _ ∧ _ ∧ _
        refine ⟨KeepsFrom.of_grownBy hend (fun j e => by have := Option.some.inj e; have := HW3.out; omega), fun k hk => hend.block k (lL' (HLT.out k hk) HZZ.out) (fun e => HFAR.out k hk (by have := Option.some.inj e; have := HB1.out; omega)), nodeJ (r1, r2, r3, 0), ?_, HOK2.out, ?_, Nat.le_trans HZZ.out hend.size⟩
        ·
         have := upTo_snoc wd (sd, false) _ _ _ HU.out (by rw [HS2.out])
         rw [HS2.out] at this
         rw [List.map_append]
         exact this
        ·
         have := (HC6.out.step (nodeJ (r1, r2, r3, 0))).below (below_alloc (Below.refl _ _) (.cells #[.string r1, .int .u64 r2, .int .u64 r3] 26))
         rw [HB1.out] at this
         exact this
       ·
        have b1 : (r4 != 0) = true := by simp [h0]
        have cr0 : w5.cell? ⟨B1 + 1, 0, none⟩ = some (.string ⟨#[]⟩) := by rw [← HB1.out]; exact blk_cell hC6.h2 0
        have cr1 : w5.cell? ⟨B1 + 1, 1, none⟩ = some (.int .u64 0) := by rw [← HB1.out]; exact blk_cell hC6.h2 1
        have cr2 : w5.cell? ⟨B1 + 1, 2, none⟩ = some (.int .u64 0) := by rw [← HB1.out]; exact blk_cell hC6.h2 2
        have fr : ∀ i, w5.frozen? ⟨B1 + 1, i, none⟩ = false := fun i => by rw [← HB1.out]; exact blk_frozen hC6.h2 i
        have ce : w5.cell? ⟨B1 + 1 + 1, 0, none⟩ = some (.int .i64 0) := by rw [← HB1.out]; exact blk_cell hC6.h3 0
        have fe : ∀ i, w5.frozen? ⟨B1 + 1 + 1, i, none⟩ = false := fun i => by rw [← HB1.out]; exact blk_frozen hC6.h3 i
        clear hC6
        gi_wp2
        have hend := bar_set (bar_set (bar_set (bar_step (bar_below HT.out.hB (B1 + 1)) HB5.out) (a := ⟨B1 + 1, 0, none⟩) (v := .string ⟨#[]⟩) (.inl rfl)) (a := ⟨B1 + 1, 1, none⟩) (v := .int .u64 0) (.inl rfl)) (a := ⟨B1 + 1, 2, none⟩) (v := .int .u64 0) (.inl rfl)
        change KeepsFrom _ W _ ∧ _
        refine ⟨(KeepsFrom.of_grownBy hend (fun j e => by have := Option.some.inj e; have := HW3.out; omega)).trans ((KeepsFrom.of_grownBy (grownBy_setCell' _ (B1 + 1 + 1) (.int .i64 r4)) (fun j e => by have := Option.some.inj e; have := HW3.out; omega)).trans (KeepsFrom.of_grownBy (World.grownBy_alloc _ (.cells #[.string r1, .int .u64 r2, .int .u64 r3] 26) none) (fun j e => by cases e))), rfl, pre.map Subtype.val, (sd, false), st, st, by simp, HU.out, by rw [HS2.out]; exact h0, ?_⟩
        rw [HS2.out]
        have := (HC6.out.put ⟨⟨#[]⟩, ⟨0, 0⟩⟩ r4).below (below_alloc (Below.refl _ _) (.cells #[.string r1, .int .u64 r2, .int .u64 r3] 26))
        rw [HB1.out] at this
        exact this
      | true =>
       have hC5 := HC.out.below HT.out.hB
       have hbx2 : W'.heap[bx]? = some (.cells (nodeA sd) 26 (0, 0)) := blk_below HBC.out HT.out.hB
       have g1 : W'.cell? ⟨b12, 0, none⟩ = some (.string sd.f0) := blk_cell HT.out.h12 0
       have g2 : W'.cell? ⟨b12, 1, none⟩ = some (.int .u64 sd.f1.f0) := blk_cell HT.out.h12 1
       have g3 : W'.cell? ⟨b12, 2, none⟩ = some (.int .u64 sd.f1.f1) := blk_cell HT.out.h12 2
       have g4 : W'.cell? ⟨b13, 0, none⟩ = some (.string st.f0) := blk_cell HT.out.h13 0
       have g5 : W'.cell? ⟨b13, 1, none⟩ = some (.int .u64 st.f1.f0) := blk_cell HT.out.h13 1
       have g6 : W'.cell? ⟨b13, 2, none⟩ = some (.int .u64 st.f1.f1) := blk_cell HT.out.h13 2
       have f12 : ∀ i, W'.frozen? ⟨b12, i, none⟩ = false := fun i => blk_frozen HT.out.h12 i
       have f13 : ∀ i, W'.frozen? ⟨b13, i, none⟩ = false := fun i => blk_frozen HT.out.h13 i
       have n0 : W'.cell? ⟨B1, 0, none⟩ = some (.string st.f0) := by rw [← HB1.out]; exact blk_cell hC5.h1 0
       have n1 : W'.cell? ⟨B1, 1, none⟩ = some (.int .u64 st.f1.f0) := by rw [← HB1.out]; exact blk_cell hC5.h1 1
       have n2 : W'.cell? ⟨B1, 2, none⟩ = some (.int .u64 st.f1.f1) := by rw [← HB1.out]; exact blk_cell hC5.h1 2
       have s0 : W'.cell? ⟨bx, 0, none⟩ = some (.string sd.f0) := blk_cell hbx2 0
       have s1 : W'.cell? ⟨bx, 1, none⟩ = some (.int .u64 sd.f1.f0) := blk_cell hbx2 1
       have s2 : W'.cell? ⟨bx, 2, none⟩ = some (.int .u64 sd.f1.f1) := blk_cell hbx2 2
       have hlb : bx < W.heap.size := blk_lt HBC.out
       have hlw : B1 < W.heap.size := by rw [← HB1.out]; exact blk_lt HC.out.h1
       have u1 : bx ≠ b12 := by have := HT.out.l12; omega
       have u2 : bx ≠ b13 := by have := HT.out.l13; omega
       have u3 : B1 ≠ b12 := by have := HT.out.l12; omega
       have u4 : B1 ≠ b13 := by have := HT.out.l13; omega
       have u5 : b12 ≠ b13 := HT.out.ne
       have u6 : b13 ≠ b12 := Ne.symm HT.out.ne
       clear hC5 hbx2 hlb hlw
       gi_upto_region 10 with (fail)
       refine wpIn_mono (Q := fun e a' V => e = .normal ∧ a' = ({ tmps := #[.int .i64 wd, nodeV n, .int .u64 p, .slice A l.length c, .pointer (some ⟨w.heap.size, 0, none⟩), .pointer (some ⟨B1, 0, none⟩), undef, undef, .pointer (some ⟨B1 + 1, 0, none⟩), .pointer (some ⟨B1 + 1 + 1, 0, none⟩), .pointer (some ⟨bx, 0, none⟩), .bool true, .pointer (some ⟨b12, 0, none⟩), .pointer (some ⟨b13, 0, none⟩), undef, undef, .bool false, .int .i64 wd, .agg #[.string n.f0, .int .u64 n.f1.f0, .int .u64 n.f1.f1], .bool true, .bool false, .bool false, .int .i64 wd, .slice A l.length c, .bool true, .bool false, .bool false, undef, .bool false, .slice A l.length c, .int .i64 (l.length : Int), .bool false, undef, .int .u64 p, .slice A l.length c, .func (.func 68) #[] #[.pointer (some ⟨w2.heap.size + 1, 0, none⟩), .pointer (some ⟨w2.heap.size, 0, none⟩)], nodeV sd, .bool true, .agg #[.string sd.f0, .int .u64 sd.f1.f0, .int .u64 sd.f1.f1], .agg #[.string st.f0, .int .u64 st.f1.f0, .int .u64 st.f1.f1], .bool true, .agg #[.string st.f0, .int .u64 st.f1.f0, .int .u64 st.f1.f1], .agg #[.string sd.f0, .int .u64 sd.f1.f0, .int .u64 sd.f1.f1], undef, undef, undef, undef, undef, undef, undef, undef, undef, undef, undef, undef, undef], defers := [] } : Act) ∧ Two W b12 b13 st sd V) ?r10 ?k10
       case r10 =>
        clear HU HOK HC HZZ HBX HBC HI HR HK UN UL HP HS HC3 HZ HL HH HLT HFAR HB1
        gi_region_with (fail)
        all_goals
         refine ⟨rfl, rfl, ?_⟩
         have h2 := HT.out.put st sd
         with_reducible exact ⟨h2.ne, h2.l12, h2.l13, below_drew h2.hB, blk_drew h2.h12, blk_drew h2.h13⟩
       case k10 =>
       clear g1 g2 g3 g4 g5 g6 f12 f13 n0 n1 n2 s0 s1 s2 u1 u2 u3 u4 u5 u6 HT
       clear W'
       rintro e a' W' ⟨rfl, rfl, hT⟩
       have HT := aM' hT
       clear hT
       dsimp only
       have hC5 := HC.out.below HT.out.hB
       have HC5 := aM' hC5
       have g0 : W'.cell? ⟨w.heap.size, 0, none⟩ = some (.int .i64 wd) := blk_cell hC5.h0 0
       have g1 : W'.cell? ⟨b12, 0, none⟩ = some (.string st.f0) := blk_cell HT.out.h12 0
       have g2 : W'.cell? ⟨b12, 1, none⟩ = some (.int .u64 st.f1.f0) := blk_cell HT.out.h12 1
       have g3 : W'.cell? ⟨b12, 2, none⟩ = some (.int .u64 st.f1.f1) := blk_cell HT.out.h12 2
       have g4 : W'.cell? ⟨b13, 0, none⟩ = some (.string sd.f0) := blk_cell HT.out.h13 0
       have g5 : W'.cell? ⟨b13, 1, none⟩ = some (.int .u64 sd.f1.f0) := blk_cell HT.out.h13 1
       have g6 : W'.cell? ⟨b13, 2, none⟩ = some (.int .u64 sd.f1.f1) := blk_cell HT.out.h13 2
       clear hC5
       rcases hj : joinI wd st sd with ⟨r1, r2, r3, r4⟩
       have hs : stepI wd st (sd, true) = (r1, r2, r3, r4) := hj
       have hok2 := joinI_ok wd st sd HOK.out hx
       obtain ⟨kk, hkk⟩ := (join_ev wd st sd HOK.out hx)
       have HJ := aM' (hkk kk (Nat.le_refl _))
       have HS2 := aM' hs
       rw [hj] at HJ hok2
       have HOK2 := aM' hok2
       clear hkk hj hs hok2
       gi_wp2_with fail
       refine ⟨trivial, ?_⟩
       refine (CallsIn.inRound l2 (callsIn_wide.2 (node_Join.calls kk wd st.f0 st.f1.f0 st.f1.f1 sd.f0 sd.f1.f0 sd.f1.f1 r1 r2 r3 r4 _ (HK.out.below HC5.out.hB) HJ.out))).mono ?_
       rintro e w5 ⟨rfl, hb5⟩
       clear g0 g1 g2 g3 g4 g5 g6
       have HB5 := aM' hb5
       have hC6 := HC5.out.below hb5
       have HC6 := aM' hC6
       have hlz := hC6.lt
       have q3 : B1 ≠ w5.heap.size := by have := HB1.out; omega
       have q4 : B1 + 1 ≠ w5.heap.size := by have := HB1.out; omega
       have q5 : B1 + 1 + 1 ≠ w5.heap.size := by have := HB1.out; omega
       have z3 : B1 < w5.heap.size := by have := HB1.out; omega
       have z4 : B1 + 1 < w5.heap.size := by have := HB1.out; omega
       have z5 : B1 + 1 + 1 < w5.heap.size := by have := HB1.out; omega
       have hw3 : B1 + 1 + 1 < w3.heap.size := by have := HB1.out; have := HC3.out.lt; omega
       have HW3 := aM' hw3
       clear hb5 hlz hw3
       by_cases h0 : r4 = 0
       ·
        subst h0
        have cn0 : w5.cell? ⟨B1, 0, none⟩ = some (.string st.f0) := by rw [← HB1.out]; exact blk_cell hC6.h1 0
        have cn1 : w5.cell? ⟨B1, 1, none⟩ = some (.int .u64 st.f1.f0) := by rw [← HB1.out]; exact blk_cell hC6.h1 1
        have cn2 : w5.cell? ⟨B1, 2, none⟩ = some (.int .u64 st.f1.f1) := by rw [← HB1.out]; exact blk_cell hC6.h1 2
        have fn : ∀ i, w5.frozen? ⟨B1, i, none⟩ = false := fun i => by rw [← HB1.out]; exact blk_frozen hC6.h1 i
        clear hC6
        gi_wp2
        have hend := bar_alloc (bar_set (bar_set (bar_set (bar_step (bar_below HT.out.hB B1) HB5.out) (a := ⟨B1, 0, none⟩) (v := .string r1) (.inl rfl)) (a := ⟨B1, 1, none⟩) (v := .int .u64 r2) (.inl rfl)) (a := ⟨B1, 2, none⟩) (v := .int .u64 r3) (.inl rfl)) (.cells #[.string r1, .int .u64 r2, .int .u64 r3] 26)
        change KeepsFrom _ W _ ∧ _ ∧ _
        refine ⟨KeepsFrom.of_grownBy hend (fun j e => by have := Option.some.inj e; have := HW3.out; omega), fun k hk => hend.block k (lL' (HLT.out k hk) HZZ.out) (fun e => HFAR.out k hk (by have := Option.some.inj e; have := HB1.out; omega)), nodeJ (r1, r2, r3, 0), ?_, HOK2.out, ?_, Nat.le_trans HZZ.out hend.size⟩
        ·
         have := upTo_snoc wd (sd, true) _ _ _ HU.out (by rw [HS2.out])
         rw [HS2.out] at this
         rw [List.map_append]
         exact this
        ·
         have := (HC6.out.step (nodeJ (r1, r2, r3, 0))).below (below_alloc (Below.refl _ _) (.cells #[.string r1, .int .u64 r2, .int .u64 r3] 26))
         rw [HB1.out] at this
         exact this
       ·
        have b1 : (r4 != 0) = true := by simp [h0]
        have cr0 : w5.cell? ⟨B1 + 1, 0, none⟩ = some (.string ⟨#[]⟩) := by rw [← HB1.out]; exact blk_cell hC6.h2 0
        have cr1 : w5.cell? ⟨B1 + 1, 1, none⟩ = some (.int .u64 0) := by rw [← HB1.out]; exact blk_cell hC6.h2 1
        have cr2 : w5.cell? ⟨B1 + 1, 2, none⟩ = some (.int .u64 0) := by rw [← HB1.out]; exact blk_cell hC6.h2 2
        have fr : ∀ i, w5.frozen? ⟨B1 + 1, i, none⟩ = false := fun i => by rw [← HB1.out]; exact blk_frozen hC6.h2 i
        have ce : w5.cell? ⟨B1 + 1 + 1, 0, none⟩ = some (.int .i64 0) := by rw [← HB1.out]; exact blk_cell hC6.h3 0
        have fe : ∀ i, w5.frozen? ⟨B1 + 1 + 1, i, none⟩ = false := fun i => by rw [← HB1.out]; exact blk_frozen hC6.h3 i
        clear hC6
        gi_wp2
        have hend := bar_set (bar_set (bar_set (bar_step (bar_below HT.out.hB (B1 + 1)) HB5.out) (a := ⟨B1 + 1, 0, none⟩) (v := .string ⟨#[]⟩) (.inl rfl)) (a := ⟨B1 + 1, 1, none⟩) (v := .int .u64 0) (.inl rfl)) (a := ⟨B1 + 1, 2, none⟩) (v := .int .u64 0) (.inl rfl)
        change KeepsFrom _ W _ ∧ _
        refine ⟨(KeepsFrom.of_grownBy hend (fun j e => by have := Option.some.inj e; have := HW3.out; omega)).trans ((KeepsFrom.of_grownBy (grownBy_setCell' _ (B1 + 1 + 1) (.int .i64 r4)) (fun j e => by have := Option.some.inj e; have := HW3.out; omega)).trans (KeepsFrom.of_grownBy (World.grownBy_alloc _ (.cells #[.string r1, .int .u64 r2, .int .u64 r3] 26) none) (fun j e => by cases e))), rfl, pre.map Subtype.val, (sd, true), st, st, by simp, HU.out, by rw [HS2.out]; exact h0, ?_⟩
        rw [HS2.out]
        have := (HC6.out.put ⟨⟨#[]⟩, ⟨0, 0⟩⟩ r4).below (below_alloc (Below.refl _ _) (.cells #[.string r1, .int .u64 r2, .int .u64 r3] 26))
        rw [HB1.out] at this
        exact this
    case done =>
     rintro D xs W hD hxs ⟨st, hu, hok, hC, hz⟩ hdf
     have HU := aM' (show climbI wd n p l = (st.f0, st.f1.f0, st.f1.f1, 0) by
      rw [HI.out, ← hxs, show xs.map Subtype.val = xs.map Subtype.val ++ [] by simp, climbL_up wd [] _ _ _ hu]; rfl)
     have cn0 : W.cell? ⟨w.heap.size + 1, 0, none⟩ = some (.string st.f0) := blk_cell hC.h1 0
     have cn1 : W.cell? ⟨w.heap.size + 1, 1, none⟩ = some (.int .u64 st.f1.f0) := blk_cell hC.h1 1
     have cn2 : W.cell? ⟨w.heap.size + 1, 2, none⟩ = some (.int .u64 st.f1.f1) := blk_cell hC.h1 2
     have cr0 : W.cell? ⟨w.heap.size + 1 + 1, 0, none⟩ = some (.string ⟨#[]⟩) := blk_cell hC.h2 0
     have cr1 : W.cell? ⟨w.heap.size + 1 + 1, 1, none⟩ = some (.int .u64 0) := blk_cell hC.h2 1
     have cr2 : W.cell? ⟨w.heap.size + 1 + 1, 2, none⟩ = some (.int .u64 0) := blk_cell hC.h2 2
     have fr : ∀ i, W.frozen? ⟨w.heap.size + 1 + 1, i, none⟩ = false := fun i => blk_frozen hC.h2 i
     have ce : W.cell? ⟨w.heap.size + 1 + 1 + 1, 0, none⟩ = some (.int .i64 0) := blk_cell hC.h3 0
     have fe : ∀ i, W.frozen? ⟨w.heap.size + 1 + 1 + 1, i, none⟩ = false := fun i => blk_frozen hC.h3 i
     have HC := aM' hC
     have HDF := aM' hdf
     have HDD := aM' hD
     clear hu hok hC hz hdf hD hxs
     gi_wp2
     rw [HU.out]
     have hDn : w.heap.size + 1 + 1 + 1 < D := by have := HDD.out; rw [HZ.out] at this; have := HL.out; omega
     exact climb_retD (HC.out.put st 0) hDn (blk_res HDF.out (by omega) (by omega) _ _ _ _) rfl rfl (fun W' hb => ⟨rfl, hb⟩)
    case stop =>
     rintro D c2 pre W hD ⟨k, hk, hp1⟩ ⟨rfl, pre0, x, st, st', h1, h2, h3, h4⟩ hdf
     obtain ⟨rest, hrest⟩ := turnsTo_pre p l k (l.length - k)
     rw [show k + (l.length - k) = l.length by omega, ← hp1, h1, List.append_assoc] at hrest
     have HU := aM' (show climbI wd n p l = (⟨#[]⟩, 0, 0, (stepI wd st x).2.2.2) by
      rw [HI.out, hrest, climbL_up wd _ _ _ _ h2]
      show climbL wd st (x :: rest) = _
      unfold climbL; rw [if_neg h3])
     gi_wp2
     rw [HU.out]
     exact climb_retD h4 (by rw [HZ.out] at hD; have := HL.out; omega) hdf rfl rfl (fun W' hb => ⟨rfl, hb⟩)
def node_Climb.f (x0 : Int) (x1 : ByteArray) (x2 x3 p : Int) (l : List SNode) : Option (ByteArray × Int × Int × Int) :=
 if 0 ≤ p ∧ ((0 ≤ x2 ∧ x2 < 18446744073709551616) ∧ (0 ≤ x3 ∧ x3 < 18446744073709551616)) ∧ ∀ x ∈ l, (0 ≤ x.f1.f0 ∧ x.f1.f0 < 18446744073709551616) ∧ (0 ≤ x.f1.f1 ∧ x.f1.f1 < 18446744073709551616) then some (climbI x0 ⟨x1, ⟨x2, x3⟩⟩ p l) else none
theorem node_Climb.calls (x0 : Int) (x1 : ByteArray) (x2 x3 p : Int) (A : Option Addr) (c : Nat) (l : List SNode) (r1 : ByteArray) (r2 r3 r4 : Int) (w : World) (hK : Laid w) (hr : Kd.C kNode w A l.length l) (hc : l.length ≤ c) (h : node_Climb.f x0 x1 x2 x3 p l = some (r1, r2, r3, r4)) :
  Calls Tryd.prog 14 #[.int .i64 x0, .agg #[.string x1, .int .u64 x2, .int .u64 x3], .int .u64 p, .slice A l.length c] w fun e w' => e = .returned (.tuple #[.agg #[.string r1, .int .u64 r2, .int .u64 r3], .int .i64 r4]) ∧ Below w.heap.size w w' := by
 unfold node_Climb.f at h
 split at h
 ·
  rename_i hh
  have h2 := Option.some.inj h
  refine (climb.calls x0 ⟨x1, ⟨x2, x3⟩⟩ p A c l w hK hr hh.1 ⟨hh.2.1.1, hh.2.1.2⟩ (fun x hx => ⟨(hh.2.2 x hx).1, (hh.2.2 x hx).2⟩)).mono ?_
  rintro e w' ⟨rfl, hb⟩
  rw [h2]
  exact ⟨rfl, hb⟩
 ·
  cases h
end Go.Proofs.YtlmmpncdemblbaaDoor.P
namespace Go.Proofs.YtlmmpncdemblbaaDoor.P
open Go.RowKit Go.Proofs.YtlmmpncdemblbaaDoorW.PrintWords Go.Proofs.YtlmmpncdemblbaaDoorW.PrintLast Go.Proofs.YtlmmpncdemblbaaDoorW.PrintMore
set_option linter.unusedVariables false
set_option linter.unusedSimpArgs false
set_option linter.unnecessarySimpa false
structure RClim (w : World) (st r2 : SNode) (W : World) : Prop where
 h1 : W.heap[w.heap.size]? = some (.cells (nodeA st) 26 (0, 0))
 h2 : W.heap[w.heap.size + 1]? = some (.cells (nodeA r2) 26 (0, 0))
 hB : Below w.heap.size w W
theorem RClim.below {w W W' : World} {st r2 : SNode} (h : RClim w st r2 W) (hb : Below W.heap.size W W') : RClim w st r2 W' :=
 ⟨blk_below h.h1 hb, blk_below h.h2 hb, h.hB.trans (hb.mono h.hB.size)⟩
theorem RClim.put {w W : World} {st r2 : SNode} (h : RClim w st r2 W) (x : SNode) :
  RClim w st x (((W.setCell ⟨w.heap.size + 1, 0, none⟩ (.string x.f0)).setCell ⟨w.heap.size + 1, 1, none⟩ (.int .u64 x.f1.f0)).setCell ⟨w.heap.size + 1, 2, none⟩ (.int .u64 x.f1.f1)) :=
 ⟨far3 h.h1 (by omega) _ _ _, put3 h.h2 x, below_set (below_set (below_set h.hB (by (try dsimp only); omega)) (by (try dsimp only); omega)) (by (try dsimp only); omega)⟩
theorem RClim.step {w W : World} {st r2 : SNode} (h : RClim w st r2 W) (x : SNode) :
  RClim w x r2 (((W.setCell ⟨w.heap.size, 0, none⟩ (.string x.f0)).setCell ⟨w.heap.size, 1, none⟩ (.int .u64 x.f1.f0)).setCell ⟨w.heap.size, 2, none⟩ (.int .u64 x.f1.f1)) :=
 ⟨put3 h.h1 x, far3 h.h2 (by omega) _ _ _, below_set (below_set (below_set h.hB (by (try dsimp only); omega)) (by (try dsimp only); omega)) (by (try dsimp only); omega)⟩
end Go.Proofs.YtlmmpncdemblbaaDoor.P
namespace Go.Proofs.YtlmmpncdemblbaaDoor.P
open Go.RowKit Go.Proofs.YtlmmpncdemblbaaDoorW.PrintWords Go.Proofs.YtlmmpncdemblbaaDoorW.PrintLast Go.Proofs.YtlmmpncdemblbaaDoorW.PrintMore
set_option linter.unusedVariables false
set_option linter.unusedSimpArgs false
set_option linter.unnecessarySimpa false
structure OkE (e : SEntry) : Prop where
 id : e.f0.f1.size ≤ 1000000
 sa : e.f0.f2.size ≤ 1000000
 ub : OkU e.f0.f3
 p : 0 ≤ e.f1.f0 ∧ e.f1.f0 < 18446744073709551616
 us : ∀ x ∈ e.f1.f1, OkU x.f1
 ls : e.f1.f1.length ≤ 9223372036854775807
def climbE (w : Int) (e : SEntry) : ByteArray × Int × Int × Int := climbI w (leafNodeI w e.f0) e.f1.f0 e.f1.f1
def mayRI (r : SRoot) : Int := if r.f2 < 0 ∨ r.f2 > 63 then 120 else if (r.f0.size : Int) < 1 ∨ (r.f0.size : Int) > 32 then 70 else 0
def checkI (r : SRoot) (e : SEntry) : Int :=
 if mayRI r = 0 then
  (if mayLeafI e.f0 = true then
   (if shapeN (r.f0.size : Int) r.f2 e.f1.f0 e.f1.f1 = 0 then
    (if (climbE (r.f0.size : Int) e).2.2.2 = 0 then
     (if (climbE (r.f0.size : Int) e).1.toList = r.f0.toList ∧ (climbE (r.f0.size : Int) e).2.1 = r.f1.f0 ∧ (climbE (r.f0.size : Int) e).2.2.1 = r.f1.f1 then 0 else 160)
    else (climbE (r.f0.size : Int) e).2.2.2)
   else shapeN (r.f0.size : Int) r.f2 e.f1.f0 e.f1.f1)
  else 130)
 else mayRI r
theorem nodeClimb_eq (w : Int) (e : SEntry) (h : OkE e) : node_Climb.f w (leafNodeI w e.f0).f0 (leafNodeI w e.f0).f1.f0 (leafNodeI w e.f0).f1.f1 e.f1.f0 e.f1.f1 = some (climbE w e) := by
 have u := leafNodeI_ok w e.f0 h.ub
 unfold node_Climb.f climbE
 rw [if_pos ⟨h.p.1, ⟨u.h0, u.h1⟩, fun x hx => ⟨(h.us x hx).h0, (h.us x hx).h1⟩⟩]
theorem verifyMay_ev (r : SRoot) : Ev (fun k => verify_May.f k r.f0 r.f1.f0 r.f1.f1 r.f2) (mayRI r) := by
 have hj : ∀ b : Bool, (b = true ↔ (r.f2 < 0 ∨ r.f2 > 63)) → Ev (fun k => verify_May.j0 k b r.f0 r.f1.f0 r.f1.f1 r.f2) (mayRI r) := by
  intro b hb
  refine Ev.step (f := fun _ => some (mayRI r)) (fun k => ?_) (Ev.now _)
  rw [verify_May.j0]
  unfold mayRI
  by_cases h1 : r.f2 < 0 ∨ r.f2 > 63
  ·
   rw [if_pos (hb.2 h1), if_pos h1]
  ·
   rw [if_neg (fun h => h1 (hb.1 h)), if_neg h1]
   by_cases h2 : (r.f0.size : Int) < 1
   ·
    rw [if_pos h2, if_pos (.inl h2)]
   ·
    rw [if_neg h2]
    by_cases h3 : (r.f0.size : Int) > 32
    ·
     rw [if_pos h3, if_pos (.inr h3)]
    ·
     rw [if_neg h3, if_neg (by omega)]
 unfold verify_May.f
 by_cases h : r.f2 < 0
 ·
  exact Ev.congr (fun k => by rw [if_pos h]) (hj true (by simp [h]))
 ·
  exact Ev.congr (fun k => by rw [if_neg h]) (hj (decide (r.f2 > 63)) (by simp; omega))
end Go.Proofs.YtlmmpncdemblbaaDoor.P
namespace Go.Proofs.YtlmmpncdemblbaaDoor.P
open Go.RowKit Go.Proofs.YtlmmpncdemblbaaDoorW.PrintWords Go.Proofs.YtlmmpncdemblbaaDoorW.PrintLast Go.Proofs.YtlmmpncdemblbaaDoorW.PrintMore
set_option linter.unusedVariables false
set_option linter.unusedSimpArgs false
set_option linter.unnecessarySimpa false
theorem longE_false {e : SEntry} (h : longE e = false) : e.f1.f1.length ≤ 100 ∧ e.f0.f1.size ≤ 200 ∧ e.f0.f2.size ≤ 200 := by
 unfold longE greatL at h
 simp only [Bool.or_eq_false_iff, decide_eq_false_iff_not, List.any_cons, List.any_nil, Bool.or_false] at h
 omega
theorem wfE_okE {e : SEntry} (h : wfEntry e) (hl : longE e = false) : OkE e := by
 obtain ⟨h1, h2, h3⟩ := longE_false hl
 exact ⟨by omega, by omega, ⟨wf_u64 h.1.2.2.2.1, wf_u64 h.1.2.2.2.2⟩, wf_u64 h.2.1, fun x hx => ⟨wf_u64 (h.2.2.2 x hx).2.1, wf_u64 (h.2.2.2 x hx).2.2⟩, by omega⟩
theorem rdEntry_nat (l : List SEntry) (i : Nat) (h : i < l.length) : rd_TEntry l (i : Int) = l[i] := by simp [rd_TEntry, h]
theorem long17_loop (l : List SEntry) (hl : l.length ≤ 40) (hw : ∀ e ∈ l, wfEntry e) : ∀ d i : Nat, i + d = l.length → Ev (fun k => paymasterlaw17_Long.l0 k l (i : Int)) ((l.drop i).any longE) := by
 intro d
 induction d with
 | zero =>
  intro i hi
  rw [List.drop_of_length_le (by omega)]
  refine Ev.step (f := fun _ => some false) (fun k => ?_) (Ev.now false)
  simp only [paymasterlaw17_Long.l0]; rw [if_neg (by omega)]
 | succ d ih =>
  intro i hi
  have hlt : i < l.length := by omega
  have hle : l[i].f1.f1.length ≤ 9223372036854775807 := by have := (hw l[i] (List.getElem_mem hlt)).2.2.1; omega
  rw [any_drop_succ _ l i hlt]
  refine Ev.step (f := fun k => (paymasterlaw16_LongEntry.f k l[i].f0.f0 l[i].f0.f1 l[i].f0.f2 l[i].f0.f3.f0 l[i].f0.f3.f1 l[i].f1.f0 l[i].f1.f1).bind fun t => if t = true then some true else paymasterlaw17_Long.l0 k l ((i + 1 : Nat) : Int)) (fun k => ?_) (Ev.bind (longE_ev _ hle) ?_)
  ·
   simp only [paymasterlaw17_Long.l0]; rw [if_pos (by omega), if_pos (by omega), rdEntry_nat l i hlt, wrap64_id (by omega) (by omega)]; rfl
  ·
   cases hb : longE l[i] with
   | true => exact Ev.some_ (fun k => by simp)
   | false => exact Ev.congr (fun k => by simp) (ev_eq (ih (i + 1) (by omega)) (by simp))
theorem long17_ev (r : SRoot) (l : List SEntry) (hw : ∀ e ∈ l, wfEntry e) : ∃ b, Ev (fun k => paymasterlaw17_Long.f k r.f0 r.f1.f0 r.f1.f1 r.f2 l) b ∧ (b = false → l.length ≤ 40 ∧ r.f0.size ≤ 60 ∧ ∀ e ∈ l, OkE e) := by
 unfold paymasterlaw17_Long.f
 by_cases h : (l.length : Int) > 40
 ·
  exact ⟨true, Ev.congr (fun k => if_pos h) (Ev.step (f := fun _ => some true) (fun k => by simp [paymasterlaw17_Long.j0]) (Ev.now _)), fun h => by cases h⟩
 by_cases h2 : (r.f0.size : Int) > 60
 ·
  exact ⟨true, Ev.congr (fun k => if_neg h) (Ev.step (f := fun _ => some true) (fun k => by simp only [paymasterlaw17_Long.j0]; rw [if_pos (decide_eq_true h2)]) (Ev.now _)), fun h => by cases h⟩
 refine ⟨l.any longE, Ev.congr (fun k => if_neg h) (Ev.step (f := fun k => paymasterlaw17_Long.l0 k l ((0 : Nat) : Int)) (fun k => ?_) (ev_eq (long17_loop l (by omega) hw l.length 0 (by omega)) (by rw [List.drop_zero]))), fun hb => ⟨by omega, by omega, fun e he => wfE_okE (hw e he) ?_⟩⟩
 ·
  simp only [paymasterlaw17_Long.j0]; rw [if_neg (by simpa using h2)]; rfl
 ·
  cases hE : longE e with
  | false => rfl
  | true => rw [List.any_eq_true.2 ⟨e, he, hE⟩] at hb; cases hb
end Go.Proofs.YtlmmpncdemblbaaDoor.P
namespace Go.Proofs.YtlmmpncdemblbaaDoor.P
open Go.RowKit Go.Proofs.YtlmmpncdemblbaaDoorW.PrintWords Go.Proofs.YtlmmpncdemblbaaDoorW.PrintLast Go.Proofs.YtlmmpncdemblbaaDoorW.PrintMore
set_option linter.unusedVariables false
set_option linter.unusedSimpArgs false
set_option linter.unnecessarySimpa false
attribute [local go_sem] sel_true
abbrev askA (r : SRoot) (e : SEntry) (A : Option Addr) (c : Nat) : Array Value := #[.string r.f0, .int .u64 r.f1.f0, .int .u64 r.f1.f1, .int .i64 r.f2, .bool e.f0.f0, .string e.f0.f1, .string e.f0.f2, .int .u64 e.f0.f3.f0, .int .u64 e.f0.f3.f1, .int .u64 e.f1.f0, .slice A e.f1.f1.length c]
structure AskS (w w' : World) (r : SRoot) (e : SEntry) (A : Option Addr) (c : Nat) : Prop where
 hB : Below w.heap.size w w'
 h0 : w'.heap[w.heap.size]? = some (.cells (askA r e A c) 109 (0, 0))
theorem AskS.of {w w' : World} {r : SRoot} {e : SEntry} {A : Option Addr} {c : Nat} {C : Prop} (h : C ∧ AskS w w' r e A c) : AskS w w' r e A c := h.2
theorem AskS.below {w w' W : World} {r : SRoot} {e : SEntry} {A : Option Addr} {c : Nat} (h : AskS w w' r e A c) (hb : Below w'.heap.size w' W) : AskS w W r e A c := ⟨h.hB.trans (hb.mono h.hB.size), blk_below h.h0 hb⟩
theorem AskS.drew {w w' : World} {r : SRoot} {e : SEntry} {A : Option Addr} {c : Nat} (h : AskS w w' r e A c) : AskS w w'.drew r e A c := h.below (below_drew (Below.refl _ _))
theorem AskS.cells {w w' : World} {r : SRoot} {e : SEntry} {A : Option Addr} {c : Nat} (h : AskS w w' r e A c) : (w'.cell? ⟨w.heap.size, 0, none⟩ = some (.string r.f0) ∧ w'.cell? ⟨w.heap.size, 1, none⟩ = some (.int .u64 r.f1.f0) ∧ w'.cell? ⟨w.heap.size, 2, none⟩ = some (.int .u64 r.f1.f1) ∧ w'.cell? ⟨w.heap.size, 3, none⟩ = some (.int .i64 r.f2) ∧ w'.cell? ⟨w.heap.size, 4, none⟩ = some (.bool e.f0.f0) ∧ w'.cell? ⟨w.heap.size, 5, none⟩ = some (.string e.f0.f1) ∧ w'.cell? ⟨w.heap.size, 6, none⟩ = some (.string e.f0.f2) ∧ w'.cell? ⟨w.heap.size, 7, none⟩ = some (.int .u64 e.f0.f3.f0) ∧ w'.cell? ⟨w.heap.size, 8, none⟩ = some (.int .u64 e.f0.f3.f1) ∧ w'.cell? ⟨w.heap.size, 9, none⟩ = some (.int .u64 e.f1.f0) ∧ w'.cell? ⟨w.heap.size, 10, none⟩ = some (.slice A e.f1.f1.length c)) ∧ AskS w w' r e A c :=
 ⟨⟨blk_cell h.h0 0, blk_cell h.h0 1, blk_cell h.h0 2, blk_cell h.h0 3, blk_cell h.h0 4, blk_cell h.h0 5, blk_cell h.h0 6, blk_cell h.h0 7, blk_cell h.h0 8, blk_cell h.h0 9, blk_cell h.h0 10⟩, h⟩
theorem AskS.put3 {w W : World} {r : SRoot} {e : SEntry} {A : Option Addr} {c : Nat} (h : AskS w W r e A c) {g : Nat} (hg : w.heap.size < g) (x y z : Value) : AskS w (((W.setCell ⟨g, 0, none⟩ x).setCell ⟨g, 1, none⟩ y).setCell ⟨g, 2, none⟩ z) r e A c :=
 ⟨below_set (below_set (below_set h.hB (by (try dsimp only); omega)) (by (try dsimp only); omega)) (by (try dsimp only); omega), far3 h.h0 (by omega) _ _ _⟩
theorem LaidT.one {w : World} (h : LaidT w) : Laid w := h.1
set_option maxRecDepth 100000 in
set_option maxHeartbeats 2000000 in
theorem askClimb.calls (r : SRoot) (e : SEntry) (A : Option Addr) (c : Nat) (w : World) (hK : LaidT w) (hr : Kd.C kNode w A e.f1.f1.length e.f1.f1) (hc : e.f1.f1.length ≤ c) (he : OkE e) (res : Int) (hres : (if (climbE (r.f0.size : Int) e).2.2.2 = 0 then (if (climbE (r.f0.size : Int) e).1.toList = r.f0.toList ∧ (climbE (r.f0.size : Int) e).2.1 = r.f1.f0 ∧ (climbE (r.f0.size : Int) e).2.2.1 = r.f1.f1 then 0 else 160) else (climbE (r.f0.size : Int) e).2.2.2) = res) :
  Calls Tryd.prog 65 #[.agg (askA r e A c)] w fun x w' => x = .returned (.int .i64 res) ∧ Below w.heap.size w w' := by
 have HK := aM' hK
 have HR := aM' hr
 have HC := aM' hc
 have HE := aM' he
 obtain ⟨kl, hkl⟩ := tagLeafNode_ev (r.f0.size : Int) e.f0 he.id he.sa
 have HL := aM' (hkl kl (Nat.le_refl _))
 have HCl := aM' (nodeClimb_eq (r.f0.size : Int) e he)
 clear hK hr hc he hkl
 generalize hcl : climbE (r.f0.size : Int) e = cl at HCl hres
 obtain ⟨c1, c2, c3, c4⟩ := cl
 clear hcl
 have HRES := aM' hres
 clear hres
 generalize hln : leafNodeI (r.f0.size : Int) e.f0 = ln at HL HCl
 clear hln
 dsimp only at HRES
 go_enter Tryd.func65, Tryd.ntmps65
 go_wp2
 have HS := aM' (show AskS w (w.alloc (.cells (askA r e A c) 109)) r e A c from ⟨below_alloc (Below.refl _ _) _, blk_new w _⟩)
 refine region_inv (fun l a W => ∃ γ : Nat, a = ({ tmps := #[.agg (askA r e A c), .pointer (some ⟨w.heap.size, 0, none⟩), .int .i64 0, sel (l 24) (.pointer (some ⟨γ, 0, none⟩)) (undef), sel (l 26) (.int .i64 c4) (undef), sel (l 21) (.tuple #[.agg #[.string c1, .int .u64 c2, .int .u64 c3], .int .i64 c4]) (undef), sel (l 0) (.pointer (some ⟨w.heap.size, 0, none⟩)) (undef), sel (l 1) (.pointer (some ⟨w.heap.size, 0, none⟩)) (undef), sel (l 2) (.string r.f0) (undef), sel (l 3) (.int .i64 (r.f0.size : Int)) (undef), sel (l 4) (.pointer (some ⟨w.heap.size, 0, none⟩)) (undef), sel (l 5) (.pointer (some ⟨w.heap.size, 0, none⟩)) (undef), sel (l 6) (.string r.f0) (undef), sel (l 7) (.int .i64 (r.f0.size : Int)) (undef), sel (l 8) (.pointer (some ⟨w.heap.size, 4, none⟩)) (undef), sel (l 9) (.pointer (some ⟨w.heap.size, 4, none⟩)) (undef), sel (l 10) (.agg #[.bool e.f0.f0, .string e.f0.f1, .string e.f0.f2, .int .u64 e.f0.f3.f0, .int .u64 e.f0.f3.f1]) (undef), sel (l 11) (.agg #[.string ln.f0, .int .u64 ln.f1.f0, .int .u64 ln.f1.f1]) (undef), sel (l 12) (.pointer (some ⟨w.heap.size, 4, none⟩)) (undef), sel (l 13) (.pointer (some ⟨w.heap.size, 9, none⟩)) (undef), sel (l 14) (.pointer (some ⟨w.heap.size, 9, none⟩)) (undef), sel (l 15) (.int .u64 e.f1.f0) (undef), sel (l 16) (.pointer (some ⟨w.heap.size, 4, none⟩)) (undef), sel (l 17) (.pointer (some ⟨w.heap.size, 9, none⟩)) (undef), sel (l 18) (.pointer (some ⟨w.heap.size, 10, none⟩)) (undef), sel (l 19) (.slice A e.f1.f1.length c) (undef), sel (l 20) (.tuple #[.agg #[.string c1, .int .u64 c2, .int .u64 c3], .int .i64 c4]) (undef), sel (l 22) (.agg #[.string c1, .int .u64 c2, .int .u64 c3]) (undef), sel (l 23) (.int .i64 c4) (undef), undef, undef, undef, undef, undef, undef, undef, undef, undef, undef, undef, undef, undef, undef, undef, undef, undef, undef, undef], defers := [] } : Act) ∧ (AskS w W r e A c ∧ (l 25 = true → l 24 = true) ∧ (l 24 = true → w.heap.size < γ ∧ W.heap[γ]? = some (.cells (if l 25 = true then #[.string c1, .int .u64 c2, .int .u64 c3] else #[.string ⟨#[]⟩, .int .u64 0, .int .u64 0]) 26 (0, 0))))) 27 rfl rfl (by kernel_rfl) ?h0 ?hend ?hstep
 case h0 => exact ⟨0, rfl, HS.out.drew, (fun h => by cases h), fun h => by cases h⟩
 case hstep =>
  refine rg_cons (rg_cons (rg_cons (rg_cons (rg_cons (rg_cons (rg_cons (rg_cons (rg_cons (rg_cons (rg_cons (rg_cons (rg_cons (rg_cons (rg_cons (rg_cons (rg_cons (rg_cons (rg_cons (rg_cons (rg_cons (rg_cons (rg_cons (rg_cons (rg_cons (rg_cons (rg_cons (rg_nil) ?s0) ?s1) ?s2) ?s3) ?s4) ?s5) ?s6) ?s7) ?s8) ?s9) ?s10) ?s11) ?s12) ?s13) ?s14) ?s15) ?s16) ?s17) ?s18) ?s19) ?s20) ?s21) ?s22) ?s23) ?s24) ?s25) ?s26
  case s0 =>
   refine rg_step rfl ?_
   rintro l a W ⟨γ, rfl, hI⟩ hl hd
   clear hd
   refine rg_val (v := .pointer (some ⟨w.heap.size, 0, none⟩)) (w' := W) rfl (by go_simp) ?_
   refine ⟨γ, ?_, ?_⟩
   ·
    simp only [Act.put, List.setIfInBounds_toArray, List.set_cons_zero, List.set_cons_succ]; rfl
   ·
    exact hI
  case s1 =>
   refine rg_step rfl ?_
   rintro l a W ⟨γ, rfl, hI⟩ hl hd
   have d0 := hd 0 (by decide)
   clear hd
   refine rg_val (v := .pointer (some ⟨w.heap.size, 0, none⟩)) (w' := W) rfl (by go_simp) ?_
   refine ⟨γ, ?_, ?_⟩
   ·
    simp only [Act.put, List.setIfInBounds_toArray, List.set_cons_zero, List.set_cons_succ]; rfl
   ·
    exact hI
  case s2 =>
   refine rg_step rfl ?_
   rintro l a W ⟨γ, rfl, hI⟩ hl hd
   have d1 := hd 1 (by decide)
   clear hd
   have x0 := blk_cell hI.1.h0 0
   simp at x0
   refine rg_val (v := .string r.f0) (w' := W) rfl (by go_simp) ?_
   refine ⟨γ, ?_, ?_⟩
   ·
    simp only [Act.put, List.setIfInBounds_toArray, List.set_cons_zero, List.set_cons_succ]; rfl
   ·
    exact hI
  case s3 =>
   refine rg_step rfl ?_
   rintro l a W ⟨γ, rfl, hI⟩ hl hd
   have d2 := hd 2 (by decide)
   clear hd
   refine rg_val (v := .int .i64 (r.f0.size : Int)) (w' := W) rfl (by go_simp) ?_
   refine ⟨γ, ?_, ?_⟩
   ·
    simp only [Act.put, List.setIfInBounds_toArray, List.set_cons_zero, List.set_cons_succ]; rfl
   ·
    exact hI
  case s4 =>
   refine rg_step rfl ?_
   rintro l a W ⟨γ, rfl, hI⟩ hl hd
   clear hd
   refine rg_val (v := .pointer (some ⟨w.heap.size, 0, none⟩)) (w' := W) rfl (by go_simp) ?_
   refine ⟨γ, ?_, ?_⟩
   ·
    simp only [Act.put, List.setIfInBounds_toArray, List.set_cons_zero, List.set_cons_succ]; rfl
   ·
    exact hI
  case s5 =>
   refine rg_step rfl ?_
   rintro l a W ⟨γ, rfl, hI⟩ hl hd
   have d4 := hd 4 (by decide)
   clear hd
   refine rg_val (v := .pointer (some ⟨w.heap.size, 0, none⟩)) (w' := W) rfl (by go_simp) ?_
   refine ⟨γ, ?_, ?_⟩
   ·
    simp only [Act.put, List.setIfInBounds_toArray, List.set_cons_zero, List.set_cons_succ]; rfl
   ·
    exact hI
  case s6 =>
   refine rg_step rfl ?_
   rintro l a W ⟨γ, rfl, hI⟩ hl hd
   have d5 := hd 5 (by decide)
   clear hd
   have x0 := blk_cell hI.1.h0 0
   simp at x0
   refine rg_val (v := .string r.f0) (w' := W) rfl (by go_simp) ?_
   refine ⟨γ, ?_, ?_⟩
   ·
    simp only [Act.put, List.setIfInBounds_toArray, List.set_cons_zero, List.set_cons_succ]; rfl
   ·
    exact hI
  case s7 =>
   refine rg_step rfl ?_
   rintro l a W ⟨γ, rfl, hI⟩ hl hd
   have d6 := hd 6 (by decide)
   clear hd
   refine rg_val (v := .int .i64 (r.f0.size : Int)) (w' := W) rfl (by go_simp) ?_
   refine ⟨γ, ?_, ?_⟩
   ·
    simp only [Act.put, List.setIfInBounds_toArray, List.set_cons_zero, List.set_cons_succ]; rfl
   ·
    exact hI
  case s8 =>
   refine rg_step rfl ?_
   rintro l a W ⟨γ, rfl, hI⟩ hl hd
   clear hd
   refine rg_val (v := .pointer (some ⟨w.heap.size, 4, none⟩)) (w' := W) rfl (by go_simp) ?_
   refine ⟨γ, ?_, ?_⟩
   ·
    simp only [Act.put, List.setIfInBounds_toArray, List.set_cons_zero, List.set_cons_succ]; rfl
   ·
    exact hI
  case s9 =>
   refine rg_step rfl ?_
   rintro l a W ⟨γ, rfl, hI⟩ hl hd
   have d8 := hd 8 (by decide)
   clear hd
   refine rg_val (v := .pointer (some ⟨w.heap.size, 4, none⟩)) (w' := W) rfl (by go_simp) ?_
   refine ⟨γ, ?_, ?_⟩
   ·
    simp only [Act.put, List.setIfInBounds_toArray, List.set_cons_zero, List.set_cons_succ]; rfl
   ·
    exact hI
  case s10 =>
   refine rg_step rfl ?_
   rintro l a W ⟨γ, rfl, hI⟩ hl hd
   have d9 := hd 9 (by decide)
   clear hd
   have x4 := blk_cell hI.1.h0 4
   have x5 := blk_cell hI.1.h0 5
   have x6 := blk_cell hI.1.h0 6
   have x7 := blk_cell hI.1.h0 7
   have x8 := blk_cell hI.1.h0 8
   simp at x4 x5 x6 x7 x8
   refine rg_val (v := .agg #[.bool e.f0.f0, .string e.f0.f1, .string e.f0.f2, .int .u64 e.f0.f3.f0, .int .u64 e.f0.f3.f1]) (w' := W) rfl (by go_simp) ?_
   refine ⟨γ, ?_, ?_⟩
   ·
    simp only [Act.put, List.setIfInBounds_toArray, List.set_cons_zero, List.set_cons_succ]; rfl
   ·
    exact hI
  case s11 =>
   refine rg_step rfl ?_
   rintro l a W ⟨γ, rfl, hI⟩ hl hd
   have d7 := hd 7 (by decide)
   have d10 := hd 10 (by decide)
   clear hd
   refine rg_call rfl (by go_simp; exact ⟨rfl, rfl⟩) ?_
   refine (tag_LeafNode.calls kl _ _ _ _ _ _ _ _ _ _ (HK.out.below hI.1.hB) HL.out).mono ?_
   rintro x W' ⟨rfl, hb⟩
   refine ⟨_, rfl, γ, ?_, ?_⟩
   ·
    simp only [Act.put, List.setIfInBounds_toArray, List.set_cons_zero, List.set_cons_succ]; rfl
   ·
    exact ⟨hI.1.below hb, hI.2.1, fun h => ⟨(hI.2.2 h).1, blk_below (hI.2.2 h).2 hb⟩⟩
  case s12 =>
   refine rg_step rfl ?_
   rintro l a W ⟨γ, rfl, hI⟩ hl hd
   clear hd
   refine rg_val (v := .pointer (some ⟨w.heap.size, 4, none⟩)) (w' := W) rfl (by go_simp) ?_
   refine ⟨γ, ?_, ?_⟩
   ·
    simp only [Act.put, List.setIfInBounds_toArray, List.set_cons_zero, List.set_cons_succ]; rfl
   ·
    exact hI
  case s13 =>
   refine rg_step rfl ?_
   rintro l a W ⟨γ, rfl, hI⟩ hl hd
   have d12 := hd 12 (by decide)
   clear hd
   refine rg_val (v := .pointer (some ⟨w.heap.size, 9, none⟩)) (w' := W) rfl (by go_simp) ?_
   refine ⟨γ, ?_, ?_⟩
   ·
    simp only [Act.put, List.setIfInBounds_toArray, List.set_cons_zero, List.set_cons_succ]; rfl
   ·
    exact hI
  case s14 =>
   refine rg_step rfl ?_
   rintro l a W ⟨γ, rfl, hI⟩ hl hd
   have d13 := hd 13 (by decide)
   clear hd
   refine rg_val (v := .pointer (some ⟨w.heap.size, 9, none⟩)) (w' := W) rfl (by go_simp) ?_
   refine ⟨γ, ?_, ?_⟩
   ·
    simp only [Act.put, List.setIfInBounds_toArray, List.set_cons_zero, List.set_cons_succ]; rfl
   ·
    exact hI
  case s15 =>
   refine rg_step rfl ?_
   rintro l a W ⟨γ, rfl, hI⟩ hl hd
   have d14 := hd 14 (by decide)
   clear hd
   have x9 := blk_cell hI.1.h0 9
   simp at x9
   refine rg_val (v := .int .u64 e.f1.f0) (w' := W) rfl (by go_simp) ?_
   refine ⟨γ, ?_, ?_⟩
   ·
    simp only [Act.put, List.setIfInBounds_toArray, List.set_cons_zero, List.set_cons_succ]; rfl
   ·
    exact hI
  case s16 =>
   refine rg_step rfl ?_
   rintro l a W ⟨γ, rfl, hI⟩ hl hd
   clear hd
   refine rg_val (v := .pointer (some ⟨w.heap.size, 4, none⟩)) (w' := W) rfl (by go_simp) ?_
   refine ⟨γ, ?_, ?_⟩
   ·
    simp only [Act.put, List.setIfInBounds_toArray, List.set_cons_zero, List.set_cons_succ]; rfl
   ·
    exact hI
  case s17 =>
   refine rg_step rfl ?_
   rintro l a W ⟨γ, rfl, hI⟩ hl hd
   have d16 := hd 16 (by decide)
   clear hd
   refine rg_val (v := .pointer (some ⟨w.heap.size, 9, none⟩)) (w' := W) rfl (by go_simp) ?_
   refine ⟨γ, ?_, ?_⟩
   ·
    simp only [Act.put, List.setIfInBounds_toArray, List.set_cons_zero, List.set_cons_succ]; rfl
   ·
    exact hI
  case s18 =>
   refine rg_step rfl ?_
   rintro l a W ⟨γ, rfl, hI⟩ hl hd
   have d17 := hd 17 (by decide)
   clear hd
   refine rg_val (v := .pointer (some ⟨w.heap.size, 10, none⟩)) (w' := W) rfl (by go_simp) ?_
   refine ⟨γ, ?_, ?_⟩
   ·
    simp only [Act.put, List.setIfInBounds_toArray, List.set_cons_zero, List.set_cons_succ]; rfl
   ·
    exact hI
  case s19 =>
   refine rg_step rfl ?_
   rintro l a W ⟨γ, rfl, hI⟩ hl hd
   have d18 := hd 18 (by decide)
   clear hd
   have x10 := blk_cell hI.1.h0 10
   simp at x10
   refine rg_val (v := .slice A e.f1.f1.length c) (w' := W) rfl (by go_simp) ?_
   refine ⟨γ, ?_, ?_⟩
   ·
    simp only [Act.put, List.setIfInBounds_toArray, List.set_cons_zero, List.set_cons_succ]; rfl
   ·
    exact hI
  case s20 =>
   refine rg_step rfl ?_
   rintro l a W ⟨γ, rfl, hI⟩ hl hd
   have d3 := hd 3 (by decide)
   have d11 := hd 11 (by decide)
   have d15 := hd 15 (by decide)
   have d19 := hd 19 (by decide)
   clear hd
   refine rg_call rfl (by go_simp; exact ⟨rfl, rfl⟩) ?_
   refine (node_Climb.calls _ _ _ _ _ A c e.f1.f1 _ _ _ _ _ ((LaidT.one HK.out).below hI.1.hB) (Kd.C_below HR.out hI.1.hB) HC.out HCl.out).mono ?_
   rintro x W' ⟨rfl, hb⟩
   refine ⟨_, rfl, γ, ?_, ?_⟩
   ·
    simp only [Act.put, List.setIfInBounds_toArray, List.set_cons_zero, List.set_cons_succ]; rfl
   ·
    exact ⟨hI.1.below hb, hI.2.1, fun h => ⟨(hI.2.2 h).1, blk_below (hI.2.2 h).2 hb⟩⟩
  case s21 =>
   refine rg_step rfl ?_
   rintro l a W ⟨γ, rfl, hI⟩ hl hd
   have d20 := hd 20 (by decide)
   clear hd
   refine rg_val (v := .tuple #[.agg #[.string c1, .int .u64 c2, .int .u64 c3], .int .i64 c4]) (w' := W) rfl (by go_simp) ?_
   refine ⟨γ, ?_, ?_⟩
   ·
    simp only [Act.put, List.setIfInBounds_toArray, List.set_cons_zero, List.set_cons_succ]; rfl
   ·
    exact hI
  case s22 =>
   refine rg_step rfl ?_
   rintro l a W ⟨γ, rfl, hI⟩ hl hd
   have d21 := hd 21 (by decide)
   clear hd
   refine rg_val (v := .agg #[.string c1, .int .u64 c2, .int .u64 c3]) (w' := W) rfl (by go_simp) ?_
   refine ⟨γ, ?_, ?_⟩
   ·
    simp only [Act.put, List.setIfInBounds_toArray, List.set_cons_zero, List.set_cons_succ]; rfl
   ·
    exact hI
  case s23 =>
   refine rg_step rfl ?_
   rintro l a W ⟨γ, rfl, hI⟩ hl hd
   have d21 := hd 21 (by decide)
   clear hd
   refine rg_val (v := .int .i64 c4) (w' := W) rfl (by go_simp) ?_
   refine ⟨γ, ?_, ?_⟩
   ·
    simp only [Act.put, List.setIfInBounds_toArray, List.set_cons_zero, List.set_cons_succ]; rfl
   ·
    exact hI
  case s24 =>
   refine rg_step rfl ?_
   rintro l a W ⟨γ, rfl, hI⟩ hl hd
   clear hd
   refine rg_val (v := .pointer (some ⟨W.heap.size, 0, none⟩)) (w' := W.alloc (.cells #[.string ⟨#[]⟩, .int .u64 0, .int .u64 0] 26)) rfl (by go_simp) ?_
   refine ⟨W.heap.size, ?_, ?_⟩
   ·
    simp only [Act.put, List.setIfInBounds_toArray, List.set_cons_zero, List.set_cons_succ]; rfl
   ·
    exact ⟨hI.1.below (below_alloc (Below.refl _ _) _), fun _ => rfl, fun _ => ⟨blk_lt hI.1.h0, by rw [if_neg (show ¬ upd l 24 25 = true from fun h => by have h : l 25 = true := h; rw [hI.2.1 h] at hl; cases hl)]; exact blk_new W _⟩⟩
  case s25 =>
   refine rg_step rfl ?_
   rintro l a W ⟨γ, rfl, hI⟩ hl hd
   have d24 := hd 24 (by decide)
   have d22 := hd 22 (by decide)
   clear hd
   have hg := hI.2.2 d24
   rw [if_neg (by rw [hl]; decide)] at hg
   have y0 := blk_cell hg.2 0
   have y1 := blk_cell hg.2 1
   have y2 := blk_cell hg.2 2
   have yf := fun i => blk_frozen hg.2 i
   simp at y0 y1 y2
   refine rg_skip rfl (by go_simp; rfl) ?_
   refine ⟨γ, ?_, ?_⟩
   ·
    simp only [Act.put, List.setIfInBounds_toArray, List.set_cons_zero, List.set_cons_succ]; rfl
   ·
    exact ⟨hI.1.put3 hg.1 _ _ _, fun _ => d24, fun _ => ⟨hg.1, put3 (z := ⟨⟨#[]⟩, ⟨0, 0⟩⟩) hg.2 ⟨c1, ⟨c2, c3⟩⟩⟩⟩
  case s26 =>
   refine rg_step rfl ?_
   rintro l a W ⟨γ, rfl, hI⟩ hl hd
   have d23 := hd 23 (by decide)
   clear hd
   refine rg_val (v := .int .i64 c4) (w' := W) rfl (by go_simp) ?_
   refine ⟨γ, ?_, ?_⟩
   ·
    simp only [Act.put, List.setIfInBounds_toArray, List.set_cons_zero, List.set_cons_succ]; rfl
   ·
    exact hI
 case hend =>
  rintro l a W ⟨γ, rfl, hI⟩ hall
  have e0 := hall 0 (by decide)
  have e1 := hall 1 (by decide)
  have e2 := hall 2 (by decide)
  have e3 := hall 3 (by decide)
  have e4 := hall 4 (by decide)
  have e5 := hall 5 (by decide)
  have e6 := hall 6 (by decide)
  have e7 := hall 7 (by decide)
  have e8 := hall 8 (by decide)
  have e9 := hall 9 (by decide)
  have e10 := hall 10 (by decide)
  have e11 := hall 11 (by decide)
  have e12 := hall 12 (by decide)
  have e13 := hall 13 (by decide)
  have e14 := hall 14 (by decide)
  have e15 := hall 15 (by decide)
  have e16 := hall 16 (by decide)
  have e17 := hall 17 (by decide)
  have e18 := hall 18 (by decide)
  have e19 := hall 19 (by decide)
  have e20 := hall 20 (by decide)
  have e21 := hall 21 (by decide)
  have e22 := hall 22 (by decide)
  have e23 := hall 23 (by decide)
  have e24 := hall 24 (by decide)
  have e25 := hall 25 (by decide)
  have e26 := hall 26 (by decide)
  clear hall
  have hn := hI.2.2 e24
  rw [if_pos e25] at hn
  simp only [e0, e1, e2, e3, e4, e5, e6, e7, e8, e9, e10, e11, e12, e13, e14, e15, e16, e17, e18, e19, e20, e21, e22, e23, e24, e25, e26, sel_true]
  clear e0 e1 e2 e3 e4 e5 e6 e7 e8 e9 e10 e11 e12 e13 e14 e15 e16 e17 e18 e19 e20 e21 e22 e23 e24 e25 e26
  have HN := aM' hn
  have HI := aM' hI.1
  have z0 : W.cell? ⟨γ, 0, none⟩ = some (.string c1) := blk_cell hn.2 0
  have z1 : W.cell? ⟨γ, 1, none⟩ = some (.int .u64 c2) := blk_cell hn.2 1
  have z2 : W.cell? ⟨γ, 2, none⟩ = some (.int .u64 c3) := blk_cell hn.2 2
  have x0 : W.cell? ⟨w.heap.size, 0, none⟩ = some (.string r.f0) := blk_cell hI.1.h0 0
  have x1 : W.cell? ⟨w.heap.size, 1, none⟩ = some (.int .u64 r.f1.f0) := blk_cell hI.1.h0 1
  have x2 : W.cell? ⟨w.heap.size, 2, none⟩ = some (.int .u64 r.f1.f1) := blk_cell hI.1.h0 2
  clear hn hI
  have HRS := HRES
  clear HRES
  by_cases h4 : c4 = 0
  ·
   subst h4
   go_wp2
   all_goals
    go_ret
    exact ⟨congrArg (fun z => Ending.returned (.int .i64 z)) (Eq.trans (by simp [*]) HRS.out), HI.out.hB⟩
  ·
   have b1 : (c4 != 0) = true := by simp [h4]
   go_wp2
   go_ret
   exact ⟨congrArg (fun z => Ending.returned (.int .i64 z)) (Eq.trans (by rw [if_neg h4]) HRS.out), HI.out.hB⟩
end Go.Proofs.YtlmmpncdemblbaaDoor.P
namespace Go.Proofs.YtlmmpncdemblbaaDoor.P
open Go.RowKit Go.Proofs.YtlmmpncdemblbaaDoorW.PrintWords Go.Proofs.YtlmmpncdemblbaaDoorW.PrintLast Go.Proofs.YtlmmpncdemblbaaDoorW.PrintMore
set_option linter.unusedVariables false
set_option linter.unusedSimpArgs false
set_option linter.unnecessarySimpa false
attribute [local go_sem] sel_true
abbrev entA (e : SEntry) (A : Option Addr) (c : Nat) : Array Value := #[.bool e.f0.f0, .string e.f0.f1, .string e.f0.f2, .int .u64 e.f0.f3.f0, .int .u64 e.f0.f3.f1, .int .u64 e.f1.f0, .slice A e.f1.f1.length c]
abbrev rootA (r : SRoot) : Array Value := #[.string r.f0, .int .u64 r.f1.f0, .int .u64 r.f1.f1, .int .i64 r.f2]
structure UpS (w W : World) (e : SEntry) (A : Option Addr) (c : Nat) (r : SRoot) : Prop where
 hB : Below w.heap.size w W
 h0 : W.heap[w.heap.size]? = some (.cells (entA e A c) 63 (0, 0))
 h1 : W.heap[w.heap.size + 1]? = some (.cells (rootA r) 66 (0, 0))
theorem UpS.lt {w W : World} {e : SEntry} {A : Option Addr} {c : Nat} {r : SRoot} (h : UpS w W e A c r) : w.heap.size + 1 < W.heap.size := blk_lt h.h1
theorem UpS.below {w W W' : World} {e : SEntry} {A : Option Addr} {c : Nat} {r : SRoot} (h : UpS w W e A c r) (hb : Below W.heap.size W W') : UpS w W' e A c r := ⟨h.hB.trans (hb.mono h.hB.size), blk_below h.h0 hb, blk_below h.h1 hb⟩
theorem UpS.put3 {w W : World} {e : SEntry} {A : Option Addr} {c : Nat} {r : SRoot} (h : UpS w W e A c r) {g : Nat} (hg : w.heap.size + 1 < g) (x y z : Value) : UpS w (((W.setCell ⟨g, 0, none⟩ x).setCell ⟨g, 1, none⟩ y).setCell ⟨g, 2, none⟩ z) e A c r :=
 ⟨below_set (below_set (below_set h.hB (by (try dsimp only); omega)) (by (try dsimp only); omega)) (by (try dsimp only); omega), far3 h.h0 (by omega) _ _ _, far3 h.h1 (by omega) _ _ _⟩
theorem UpS.put {w W : World} {e : SEntry} {A : Option Addr} {c : Nat} {r : SRoot} (h : UpS w W e A c r) (x : SRoot) :
  UpS w ((((W.setCell ⟨w.heap.size + 1, 0, none⟩ (.string x.f0)).setCell ⟨w.heap.size + 1, 1, none⟩ (.int .u64 x.f1.f0)).setCell ⟨w.heap.size + 1, 2, none⟩ (.int .u64 x.f1.f1)).setCell ⟨w.heap.size + 1, 3, none⟩ (.int .i64 x.f2)) e A c x := by
 have a1 := blk_put (cs' := rootA ⟨x.f0, r.f1, r.f2⟩) h.h1 0 (.string x.f0) rfl
 have a2 := blk_put (cs' := rootA ⟨x.f0, ⟨x.f1.f0, r.f1.f1⟩, r.f2⟩) a1 1 (.int .u64 x.f1.f0) rfl
 have a3 := blk_put (cs' := rootA ⟨x.f0, x.f1, r.f2⟩) a2 2 (.int .u64 x.f1.f1) rfl
 have a4 := blk_put (cs' := rootA x) a3 3 (.int .i64 x.f2) rfl
 exact ⟨below_set (below_set (below_set (below_set h.hB (by (try dsimp only); omega)) (by (try dsimp only); omega)) (by (try dsimp only); omega)) (by (try dsimp only); omega), blk_far (far3 h.h0 (by omega) _ _ _) (by (try dsimp only); omega) _, a4⟩
theorem askLeaf_eq (e : SEntry) (he : OkE e) (h : ByteArray) (a b c : Int) : verify_asked_leaf.f h a b c e.f0.f0 e.f0.f1 e.f0.f2 e.f0.f3.f0 e.f0.f3.f1 e.f1.f0 e.f1.f1 = some (if mayLeafI e.f0 = true then 0 else 130) := by
 unfold verify_asked_leaf.f
 rw [tagMayLeaf_eq e.f0 he.id]
 cases mayLeafI e.f0 <;> rfl
end Go.Proofs.YtlmmpncdemblbaaDoor.P
namespace Go.Proofs.YtlmmpncdemblbaaDoor.P
open Go.RowKit Go.Proofs.YtlmmpncdemblbaaDoorW.PrintWords Go.Proofs.YtlmmpncdemblbaaDoorW.PrintLast Go.Proofs.YtlmmpncdemblbaaDoorW.PrintMore
set_option linter.unusedVariables false
set_option linter.unusedSimpArgs false
set_option linter.unnecessarySimpa false
theorem askRoot_ev (r : SRoot) (e : SEntry) : Ev (fun k => verify_asked_root.f k r.f0 r.f1.f0 r.f1.f1 r.f2 e.f0.f0 e.f0.f1 e.f0.f2 e.f0.f3.f0 e.f0.f3.f1 e.f1.f0 e.f1.f1) (mayRI r) := by
 unfold verify_asked_root.f
 exact Ev.bind (verifyMay_ev r) (Ev.now _)
theorem askShape_eq (r : SRoot) (e : SEntry) : verify_asked_shape.f r.f0 r.f1.f0 r.f1.f1 r.f2 e.f0.f0 e.f0.f1 e.f0.f2 e.f0.f3.f0 e.f0.f3.f1 e.f1.f0 e.f1.f1 = some (shapeN (r.f0.size : Int) r.f2 e.f1.f0 e.f1.f1) := by
 unfold verify_asked_shape.f
 rw [proofShape_eq]; rfl
set_option maxRecDepth 100000 in
set_option maxHeartbeats 4000000 in
theorem check.calls (r : SRoot) (e : SEntry) (A : Option Addr) (c : Nat) (w : World) (hK : LaidT w) (hr : Kd.C kNode w A e.f1.f1.length e.f1.f1) (hc : e.f1.f1.length ≤ c) (he : OkE e) :
  Calls Tryd.prog 31 #[.agg (rootA r), .agg (entA e A c)] w fun x w' => x = .returned (.int .i64 (checkI r e)) ∧ Below w.heap.size w w' := by
 have HK := aM' hK
 have HR := aM' hr
 have HC := aM' hc
 have HE := aM' he
 obtain ⟨kr, hkr⟩ := askRoot_ev r e
 have HRo := aM' (hkr kr (Nat.le_refl _))
 have HLe := aM' (askLeaf_eq e he r.f0 r.f1.f0 r.f1.f1 r.f2)
 have HSh := aM' (askShape_eq r e)
 obtain ⟨res, hres⟩ : ∃ res, (if (climbE (r.f0.size : Int) e).2.2.2 = 0 then (if (climbE (r.f0.size : Int) e).1.toList = r.f0.toList ∧ (climbE (r.f0.size : Int) e).2.1 = r.f1.f0 ∧ (climbE (r.f0.size : Int) e).2.2.1 = r.f1.f1 then 0 else 160) else (climbE (r.f0.size : Int) e).2.2.2) = res := ⟨_, rfl⟩
 have HCk := aM' (show checkI r e = if mayRI r = 0 then (if mayLeafI e.f0 = true then (if shapeN (r.f0.size : Int) r.f2 e.f1.f0 e.f1.f1 = 0 then res else shapeN (r.f0.size : Int) r.f2 e.f1.f0 e.f1.f1) else 130) else mayRI r by rw [← hres]; rfl)
 have HRes := aM' hres
 clear hK hr hc he hkr hres
 generalize checkI r e = ck at HCk ⊢
 generalize mayRI r = mr at HRo HCk
 generalize shapeN (r.f0.size : Int) r.f2 e.f1.f0 e.f1.f1 = sh at HSh HCk
 have i0 : ∀ (f0 f1 f2 f3 : Value) (w : World), (Instr.index 115 (.agg #[f0, f1, f2, f3]) (.int .i64 0)).run Tryd.prog w = .ok f0 w := fun _ _ _ _ _ => by kernel_rfl
 have i1 : ∀ (f0 f1 f2 f3 : Value) (w : World), (Instr.index 115 (.agg #[f0, f1, f2, f3]) (.int .i64 1)).run Tryd.prog w = .ok f1 w := fun _ _ _ _ _ => by kernel_rfl
 have i2 : ∀ (f0 f1 f2 f3 : Value) (w : World), (Instr.index 115 (.agg #[f0, f1, f2, f3]) (.int .i64 2)).run Tryd.prog w = .ok f2 w := fun _ _ _ _ _ => by kernel_rfl
 have i3 : ∀ (f0 f1 f2 f3 : Value) (w : World), (Instr.index 115 (.agg #[f0, f1, f2, f3]) (.int .i64 3)).run Tryd.prog w = .ok f3 w := fun _ _ _ _ _ => by kernel_rfl
 go_enter Tryd.func31, Tryd.ntmps31
 go_wp2
 refine wp_loop_rounds 5 ?_
 rw [rounds_succ]
 by_cases h0 : mr = 0
 ·
  have m0 : (mr != 0) = false := by simp [h0]
  go_wp2_with (go_at_call 63; refine (verify_asked_root.calls kr r.f0 r.f1.f0 r.f1.f1 r.f2 e.f0.f0 e.f0.f1 e.f0.f2 e.f0.f3.f0 e.f0.f3.f1 e.f1.f0 A c e.f1.f1 mr _ (Kd.C_below HR.out (by repeat (first | exact Below.refl _ _ | apply below_alloc))) HC.out HRo.out).mono ?_; rintro x w1 ⟨rfl, hb1⟩)
  have HB1 : Aside0 (Below w.heap.size w w1) := ⟨Below.trans (by repeat (first | exact Below.refl _ _ | apply below_alloc)) (hb1.mono (Below.size (by repeat (first | exact Below.refl _ _ | apply below_alloc))))⟩
  clear hb1
  go_wp2
  rw [rounds_succ]
  by_cases h1 : mayLeafI e.f0 = true
  ·
   have m1 : ((if mayLeafI e.f0 = true then (0 : Int) else 130) != 0) = false := by rw [if_pos h1]; rfl
   go_wp2_with (go_at_call 57; refine (verify_asked_leaf.calls r.f0 r.f1.f0 r.f1.f1 r.f2 e.f0.f0 e.f0.f1 e.f0.f2 e.f0.f3.f0 e.f0.f3.f1 e.f1.f0 A c e.f1.f1 _ _ (HK.out.below HB1.out) (Kd.C_below HR.out HB1.out) HC.out HLe.out).mono ?_; rintro x w2 ⟨rfl, hb2⟩)
   have HB2 : Aside0 (Below w.heap.size w w2) := ⟨HB1.out.trans (hb2.mono HB1.out.size)⟩
   clear hb2
   go_wp2
   rw [rounds_succ]
   by_cases h2 : sh = 0
   ·
    have m2 : (sh != 0) = false := by simp [h2]
    go_wp2_with (go_at_call 64; refine (verify_asked_shape.calls r.f0 r.f1.f0 r.f1.f1 r.f2 e.f0.f0 e.f0.f1 e.f0.f2 e.f0.f3.f0 e.f0.f3.f1 e.f1.f0 A c e.f1.f1 _ _ (Kd.C_below HR.out HB2.out) HC.out HSh.out).mono ?_; rintro x w3 ⟨rfl, hb3⟩)
    have HB3 : Aside0 (Below w.heap.size w w3) := ⟨HB2.out.trans (hb3.mono HB2.out.size)⟩
    clear hb3
    go_wp2
    rw [rounds_succ]
    by_cases h3 : res = 0
    ·
     have m3 : (res != 0) = false := by simp [h3]
     go_wp2_with (go_at_call 65; refine (askClimb.calls r e A c _ (HK.out.below HB3.out) (Kd.C_below HR.out HB3.out) HC.out HE.out res HRes.out).mono ?_; rintro x w4 ⟨rfl, hb4⟩)
     have HB4 : Aside0 (Below w.heap.size w w4) := ⟨HB3.out.trans (hb4.mono HB3.out.size)⟩
     clear hb4
     go_wp2
     rw [rounds_succ]
     go_wp2
     go_ret
     exact ⟨by rw [HCk.out, if_pos h0, if_pos h1, if_pos h2, h3]; rfl, HB4.out⟩
    ·
     have m3 : (res != 0) = true := by simp [h3]
     go_wp2_with (go_at_call 65; refine (askClimb.calls r e A c _ (HK.out.below HB3.out) (Kd.C_below HR.out HB3.out) HC.out HE.out res HRes.out).mono ?_; rintro x w4 ⟨rfl, hb4⟩)
     have HB4 : Aside0 (Below w.heap.size w w4) := ⟨HB3.out.trans (hb4.mono HB3.out.size)⟩
     clear hb4
     go_wp2
     go_ret
     exact ⟨by rw [HCk.out, if_pos h0, if_pos h1, if_pos h2]; rfl, HB4.out⟩
   ·
    have m2 : (sh != 0) = true := by simp [h2]
    go_wp2_with (go_at_call 64; refine (verify_asked_shape.calls r.f0 r.f1.f0 r.f1.f1 r.f2 e.f0.f0 e.f0.f1 e.f0.f2 e.f0.f3.f0 e.f0.f3.f1 e.f1.f0 A c e.f1.f1 _ _ (Kd.C_below HR.out HB2.out) HC.out HSh.out).mono ?_; rintro x w3 ⟨rfl, hb3⟩)
    have HB3 : Aside0 (Below w.heap.size w w3) := ⟨HB2.out.trans (hb3.mono HB2.out.size)⟩
    clear hb3
    go_wp2
    go_ret
    exact ⟨by rw [HCk.out, if_pos h0, if_pos h1, if_neg h2]; rfl, HB3.out⟩
  ·
   have m1 : ((if mayLeafI e.f0 = true then (0 : Int) else 130) != 0) = true := by rw [if_neg h1]; rfl
   go_wp2_with (go_at_call 57; refine (verify_asked_leaf.calls r.f0 r.f1.f0 r.f1.f1 r.f2 e.f0.f0 e.f0.f1 e.f0.f2 e.f0.f3.f0 e.f0.f3.f1 e.f1.f0 A c e.f1.f1 _ _ (HK.out.below HB1.out) (Kd.C_below HR.out HB1.out) HC.out HLe.out).mono ?_; rintro x w2 ⟨rfl, hb2⟩)
   have HB2 : Aside0 (Below w.heap.size w w2) := ⟨HB1.out.trans (hb2.mono HB1.out.size)⟩
   clear hb2
   go_wp2
   go_ret
   exact ⟨by rw [HCk.out, if_pos h0, if_neg h1]; rfl, HB2.out⟩
 ·
  have m0 : (mr != 0) = true := by simp [h0]
  go_wp2_with (go_at_call 63; refine (verify_asked_root.calls kr r.f0 r.f1.f0 r.f1.f1 r.f2 e.f0.f0 e.f0.f1 e.f0.f2 e.f0.f3.f0 e.f0.f3.f1 e.f1.f0 A c e.f1.f1 mr _ (Kd.C_below HR.out (by repeat (first | exact Below.refl _ _ | apply below_alloc))) HC.out HRo.out).mono ?_; rintro x w1 ⟨rfl, hb1⟩)
  have HB1 : Aside0 (Below w.heap.size w w1) := ⟨Below.trans (by repeat (first | exact Below.refl _ _ | apply below_alloc)) (hb1.mono (Below.size (by repeat (first | exact Below.refl _ _ | apply below_alloc))))⟩
  clear hb1
  go_wp2
  go_ret
  exact ⟨by rw [HCk.out, if_neg h0]; rfl, HB1.out⟩
end Go.Proofs.YtlmmpncdemblbaaDoor.P
namespace Go.Proofs.YtlmmpncdemblbaaDoor.P
open Go.RowKit Go.Proofs.YtlmmpncdemblbaaDoorW.PrintWords Go.Proofs.YtlmmpncdemblbaaDoorW.PrintLast Go.Proofs.YtlmmpncdemblbaaDoorW.PrintMore
set_option linter.unusedVariables false
set_option linter.unusedSimpArgs false
set_option linter.unnecessarySimpa false
attribute [local go_sem] sel_true
theorem oneEntry_C {w : World} {g : Nat} {e : SEntry} {A : Option Addr} {c : Nat} {t : TypeId} (h : w.heap[g]? = some (.cells (entA e A c) t (0, 0))) (hr : Kd.C kNode w A e.f1.f1.length e.f1.f1) (hc : e.f1.f1.length ≤ c) : Kd.C kEntry w (some ⟨g, 0, none⟩) ([e] : List SEntry).length [e] := by
 refine ⟨rfl, by simp, fun _ => ⟨_, rfl, fun j p hj => ?_⟩⟩
 match j, hj with
 | 0, hj =>
  obtain rfl := Option.some.inj hj
  refine ⟨_, rfl, kEntry_mk w e hc hr, fun i u hu => ?_⟩
  have h1 := blk_cell h i
  have h2 : (⟨g, 0, none⟩ : Addr).add (0 * kEntry.sz + i) = ⟨g, i, none⟩ := by
   rw [Nat.zero_mul, Nat.zero_add]; unfold Addr.add; split
   ·
    rename_i h0; rw [h0]
   ·
    simp
  rw [h2, h1]
  simpa using hu
 | j + 1, hj => simp at hj
def HiI (w W : World) (r : SRoot) (e : SEntry) (A : Option Addr) (c : Nat) (l : Nat → Bool) (γ : Nat → Nat) : Prop :=
 Below w.heap.size w W ∧ W.heap[w.heap.size]? = some (.cells (rootA r) 66 (0, 0)) ∧ W.heap[w.heap.size + 1]? = some (.cells (entA e A c) 63 (0, 0)) ∧
 (∀ k, k < 4 → (l (8 + k) = true → l (4 + k) = true) ∧ (l (4 + k) = true → w.heap.size + 1 < γ k ∧ W.heap[γ k]? = some (.cells (if l (8 + k) = true then rootA r else #[.string ⟨#[]⟩, .int .u64 0, .int .u64 0, .int .i64 0]) 66 (0, 0)))) ∧
 ∀ k k', k < 4 → k' < 4 → k ≠ k' → l (4 + k) = true → l (4 + k') = true → γ k ≠ γ k'
theorem HiI.alloc {w W : World} {r : SRoot} {e : SEntry} {A : Option Addr} {c : Nat} {l : Nat → Bool} {γ : Nat → Nat} (h : HiI w W r e A c l γ) (k : Nat) (hk : k < 4) (hl : l (4 + k) = false) :
  HiI w (W.alloc (.cells #[.string ⟨#[]⟩, .int .u64 0, .int .u64 0, .int .i64 0] 66 (0, 0))) r e A c (upd l (4 + k)) (fun j => if j = k then W.heap.size else γ j) := by
 obtain ⟨hB, h0, h1, hg, hd⟩ := h
 have h8 : l (8 + k) = false := by
  cases hx : l (8 + k) with
  | false => rfl
  | true => rw [(hg k hk).1 hx] at hl; cases hl
 have u4 : ∀ k', k' ≠ k → upd l (4 + k) (4 + k') = l (4 + k') := fun k' hn => by unfold upd; rw [if_neg (by omega)]
 have u8 : ∀ k', k' < 4 → upd l (4 + k) (8 + k') = l (8 + k') := fun k' hn => by unfold upd; rw [if_neg (by omega)]
 have uk : upd l (4 + k) (4 + k) = true := by unfold upd; rw [if_pos rfl]
 refine ⟨below_alloc hB _, blk_alloc h0 _, blk_alloc h1 _, fun k' hk' => ?_, fun k1 k2 hk1 hk2 hn a1 a2 => ?_⟩
 ·
  by_cases he : k' = k
  ·
   subst he
   refine ⟨fun _ => uk, fun _ => ?_⟩
   rw [u8 k' hk', h8]
   show w.heap.size + 1 < (if k' = k' then W.heap.size else γ k') ∧ (W.alloc _).heap[(if k' = k' then W.heap.size else γ k')]? = _
   rw [if_pos rfl, if_neg (by decide)]
   exact ⟨blk_lt h1, blk_new W _⟩
  ·
   rw [u8 k' hk', u4 k' he]
   refine ⟨(hg k' hk').1, fun hx => ?_⟩
   show w.heap.size + 1 < (if k' = k then W.heap.size else γ k') ∧ (W.alloc _).heap[(if k' = k then W.heap.size else γ k')]? = _
   rw [if_neg he]
   exact ⟨((hg k' hk').2 hx).1, blk_alloc ((hg k' hk').2 hx).2 _⟩
 ·
  show (if k1 = k then W.heap.size else γ k1) ≠ (if k2 = k then W.heap.size else γ k2)
  by_cases e1 : k1 = k
  ·
   have e2 : k2 ≠ k := fun h => hn (e1.trans h.symm)
   rw [if_pos e1, if_neg e2]
   rw [u4 k2 e2] at a2
   exact fun h => Nat.lt_irrefl _ (h ▸ blk_lt ((hg k2 hk2).2 a2).2)
  ·
   rw [if_neg e1]
   rw [u4 k1 e1] at a1
   by_cases e2 : k2 = k
   ·
    rw [if_pos e2]
    exact fun h => Nat.lt_irrefl _ (h ▸ blk_lt ((hg k1 hk1).2 a1).2)
   ·
    rw [if_neg e2]
    rw [u4 k2 e2] at a2
    exact hd k1 k2 hk1 hk2 hn a1 a2
theorem far4 {W : World} {g k : Nat} {t : TypeId} {cs : Array Value} (h : W.heap[k]? = some (.cells cs t (0, 0))) (hn : k ≠ g) (a b c d : Value) : ((((W.setCell ⟨g, 0, none⟩ a).setCell ⟨g, 1, none⟩ b).setCell ⟨g, 2, none⟩ c).setCell ⟨g, 3, none⟩ d).heap[k]? = some (.cells cs t (0, 0)) :=
 blk_far (blk_far (blk_far (blk_far h hn _) hn _) hn _) hn _
theorem HiI.store {w W : World} {r : SRoot} {e : SEntry} {A : Option Addr} {c : Nat} {l : Nat → Bool} {γ : Nat → Nat} (h : HiI w W r e A c l γ) (k : Nat) (hk : k < 4) (hl : l (8 + k) = false) (ha : l (4 + k) = true) :
  HiI w ((((W.setCell ⟨γ k, 0, none⟩ (.string r.f0)).setCell ⟨γ k, 1, none⟩ (.int .u64 r.f1.f0)).setCell ⟨γ k, 2, none⟩ (.int .u64 r.f1.f1)).setCell ⟨γ k, 3, none⟩ (.int .i64 r.f2)) r e A c (upd l (8 + k)) γ := by
 obtain ⟨hB, h0, h1, hg, hd⟩ := h
 have hgk := (hg k hk).2 ha
 rw [hl, if_neg (by decide)] at hgk
 have u4 : ∀ k', k' < 4 → upd l (8 + k) (4 + k') = l (4 + k') := fun k' hn => by unfold upd; rw [if_neg (by omega)]
 have u8 : ∀ k', k' ≠ k → upd l (8 + k) (8 + k') = l (8 + k') := fun k' hn => by unfold upd; rw [if_neg (by omega)]
 have uk : upd l (8 + k) (8 + k) = true := by unfold upd; rw [if_pos rfl]
 have hlt := hgk.1
 refine ⟨below_set (below_set (below_set (below_set hB (by (try dsimp only); omega)) (by (try dsimp only); omega)) (by (try dsimp only); omega)) (by (try dsimp only); omega), far4 h0 (by omega) _ _ _ _, far4 h1 (by omega) _ _ _ _, fun k' hk' => ?_, fun k1 k2 hk1 hk2 hn a1 a2 => ?_⟩
 ·
  by_cases he : k' = k
  ·
   subst he
   rw [u4 k' hk', uk, if_pos rfl]
   refine ⟨fun _ => ha, fun _ => ⟨hlt, ?_⟩⟩
   exact blk_put (cs' := rootA r) (blk_put (cs' := #[.string r.f0, .int .u64 r.f1.f0, .int .u64 r.f1.f1, .int .i64 0]) (blk_put (cs' := #[.string r.f0, .int .u64 r.f1.f0, .int .u64 0, .int .i64 0]) (blk_put (cs' := #[.string r.f0, .int .u64 0, .int .u64 0, .int .i64 0]) hgk.2 0 _ rfl) 1 _ rfl) 2 _ rfl) 3 _ rfl
  ·
   rw [u4 k' hk', u8 k' he]
   refine ⟨(hg k' hk').1, fun hx => ⟨((hg k' hk').2 hx).1, far4 ((hg k' hk').2 hx).2 (hd k' k hk' hk he hx ha) _ _ _ _⟩⟩
 ·
  rw [u4 k1 hk1] at a1
  rw [u4 k2 hk2] at a2
  exact hd k1 k2 hk1 hk2 hn a1 a2
theorem HiI.load {w W : World} {r : SRoot} {e : SEntry} {A : Option Addr} {c : Nat} {l : Nat → Bool} {γ : Nat → Nat} (h : HiI w W r e A c l γ) (i : Nat) (hi : i < 4) : HiI w W r e A c (upd l i) γ := by
 obtain ⟨hB, h0, h1, hg, hd⟩ := h
 have u : ∀ j, 4 ≤ j → upd l i j = l j := fun j hj => by unfold upd; rw [if_neg (by omega)]
 refine ⟨hB, h0, h1, fun k hk => ?_, fun k1 k2 hk1 hk2 hn a1 a2 => ?_⟩
 ·
  rw [u _ (by omega), u _ (by omega)]; exact hg k hk
 ·
  rw [u _ (by omega)] at a1 a2; exact hd k1 k2 hk1 hk2 hn a1 a2
structure HiD (w W : World) (e : SEntry) (A : Option Addr) (c : Nat) (r m7 m8 m9 m10 : SRoot) (g7 g8 g9 g10 : Nat) : Prop where
 hB : Below w.heap.size w W
 h0 : W.heap[w.heap.size]? = some (.cells (rootA r) 66 (0, 0))
 h1 : W.heap[w.heap.size + 1]? = some (.cells (entA e A c) 63 (0, 0))
 b7 : W.heap[g7]? = some (.cells (rootA m7) 66 (0, 0))
 l7 : w.heap.size + 1 < g7
 b8 : W.heap[g8]? = some (.cells (rootA m8) 66 (0, 0))
 l8 : w.heap.size + 1 < g8
 b9 : W.heap[g9]? = some (.cells (rootA m9) 66 (0, 0))
 l9 : w.heap.size + 1 < g9
 b10 : W.heap[g10]? = some (.cells (rootA m10) 66 (0, 0))
 l10 : w.heap.size + 1 < g10
 n7_8 : g7 ≠ g8
 n7_9 : g7 ≠ g9
 n7_10 : g7 ≠ g10
 n8_9 : g8 ≠ g9
 n8_10 : g8 ≠ g10
 n9_10 : g9 ≠ g10
theorem HiI.done {w W : World} {r : SRoot} {e : SEntry} {A : Option Addr} {c : Nat} {l : Nat → Bool} {γ : Nat → Nat} (h : HiI w W r e A c l γ) (ha : ∀ i, i < 12 → l i = true) : HiD w W e A c r r r r r (γ 0) (γ 1) (γ 2) (γ 3) := by
 obtain ⟨hB, h0, h1, hg, hd⟩ := h
 have hb : ∀ k, k < 4 → w.heap.size + 1 < γ k ∧ W.heap[γ k]? = some (.cells (rootA r) 66 (0, 0)) := fun k hk => by
  have := (hg k hk).2 (ha _ (by omega))
  rw [if_pos (ha _ (by omega))] at this
  exact this
 have hn : ∀ k k', k < 4 → k' < 4 → k ≠ k' → γ k ≠ γ k' := fun k k' h h' hn => hd k k' h h' hn (ha _ (by omega)) (ha _ (by omega))
 exact ⟨hB, h0, h1, (hb 0 (by decide)).2, (hb 0 (by decide)).1, (hb 1 (by decide)).2, (hb 1 (by decide)).1, (hb 2 (by decide)).2, (hb 2 (by decide)).1, (hb 3 (by decide)).2, (hb 3 (by decide)).1, hn 0 1 (by decide) (by decide) (by decide), hn 0 2 (by decide) (by decide) (by decide), hn 0 3 (by decide) (by decide) (by decide), hn 1 2 (by decide) (by decide) (by decide), hn 1 3 (by decide) (by decide) (by decide), hn 2 3 (by decide) (by decide) (by decide)⟩
theorem HiD.below {w W W' : World} {e : SEntry} {A : Option Addr} {c : Nat} {r m7 m8 m9 m10 : SRoot} {g7 g8 g9 g10 : Nat} (h : HiD w W e A c r m7 m8 m9 m10 g7 g8 g9 g10) (hb : Below W.heap.size W W') : HiD w W' e A c r m7 m8 m9 m10 g7 g8 g9 g10 :=
 ⟨h.hB.trans (hb.mono h.hB.size), blk_below h.h0 hb, blk_below h.h1 hb, blk_below h.b7 hb, h.l7, blk_below h.b8 hb, h.l8, blk_below h.b9 hb, h.l9, blk_below h.b10 hb, h.l10, h.n7_8, h.n7_9, h.n7_10, h.n8_9, h.n8_10, h.n9_10⟩
theorem HiD.set7 {w W : World} {e : SEntry} {A : Option Addr} {c : Nat} {r m7 m8 m9 m10 : SRoot} {g7 g8 g9 g10 : Nat} (h : HiD w W e A c r m7 m8 m9 m10 g7 g8 g9 g10) (x : Int) : HiD w (W.setCell ⟨g7, 3, none⟩ (.int .i64 x)) e A c r ⟨m7.f0, m7.f1, x⟩ m8 m9 m10 g7 g8 g9 g10 :=
 ⟨below_set h.hB (by have := h.l7; omega), blk_far h.h0 (by have := h.l7; dsimp only; omega) _, blk_far h.h1 (by have := h.l7; dsimp only; omega) _, blk_put (cs' := rootA ⟨m7.f0, m7.f1, x⟩) h.b7 3 _ rfl, h.l7, blk_far h.b8 (h.n7_8.symm) _, h.l8, blk_far h.b9 (h.n7_9.symm) _, h.l9, blk_far h.b10 (h.n7_10.symm) _, h.l10, h.n7_8, h.n7_9, h.n7_10, h.n8_9, h.n8_10, h.n9_10⟩
theorem HiD.set8 {w W : World} {e : SEntry} {A : Option Addr} {c : Nat} {r m7 m8 m9 m10 : SRoot} {g7 g8 g9 g10 : Nat} (h : HiD w W e A c r m7 m8 m9 m10 g7 g8 g9 g10) (x : Int) : HiD w (W.setCell ⟨g8, 3, none⟩ (.int .i64 x)) e A c r m7 ⟨m8.f0, m8.f1, x⟩ m9 m10 g7 g8 g9 g10 :=
 ⟨below_set h.hB (by have := h.l8; omega), blk_far h.h0 (by have := h.l8; dsimp only; omega) _, blk_far h.h1 (by have := h.l8; dsimp only; omega) _, blk_far h.b7 (h.n7_8) _, h.l7, blk_put (cs' := rootA ⟨m8.f0, m8.f1, x⟩) h.b8 3 _ rfl, h.l8, blk_far h.b9 (h.n8_9.symm) _, h.l9, blk_far h.b10 (h.n8_10.symm) _, h.l10, h.n7_8, h.n7_9, h.n7_10, h.n8_9, h.n8_10, h.n9_10⟩
theorem HiD.set9 {w W : World} {e : SEntry} {A : Option Addr} {c : Nat} {r m7 m8 m9 m10 : SRoot} {g7 g8 g9 g10 : Nat} (h : HiD w W e A c r m7 m8 m9 m10 g7 g8 g9 g10) (x : ByteArray) : HiD w (W.setCell ⟨g9, 0, none⟩ (.string x)) e A c r m7 m8 ⟨x, m9.f1, m9.f2⟩ m10 g7 g8 g9 g10 :=
 ⟨below_set h.hB (by have := h.l9; omega), blk_far h.h0 (by have := h.l9; dsimp only; omega) _, blk_far h.h1 (by have := h.l9; dsimp only; omega) _, blk_far h.b7 (h.n7_9) _, h.l7, blk_far h.b8 (h.n8_9) _, h.l8, blk_put (cs' := rootA ⟨x, m9.f1, m9.f2⟩) h.b9 0 _ rfl, h.l9, blk_far h.b10 (h.n9_10.symm) _, h.l10, h.n7_8, h.n7_9, h.n7_10, h.n8_9, h.n8_10, h.n9_10⟩
theorem HiD.set10 {w W : World} {e : SEntry} {A : Option Addr} {c : Nat} {r m7 m8 m9 m10 : SRoot} {g7 g8 g9 g10 : Nat} (h : HiD w W e A c r m7 m8 m9 m10 g7 g8 g9 g10) (x : ByteArray) : HiD w (W.setCell ⟨g10, 0, none⟩ (.string x)) e A c r m7 m8 m9 ⟨x, m10.f1, m10.f2⟩ g7 g8 g9 g10 :=
 ⟨below_set h.hB (by have := h.l10; omega), blk_far h.h0 (by have := h.l10; dsimp only; omega) _, blk_far h.h1 (by have := h.l10; dsimp only; omega) _, blk_far h.b7 (h.n7_10) _, h.l7, blk_far h.b8 (h.n8_10) _, h.l8, blk_far h.b9 (h.n9_10) _, h.l9, blk_put (cs' := rootA ⟨x, m10.f1, m10.f2⟩) h.b10 0 _ rfl, h.l10, h.n7_8, h.n7_9, h.n7_10, h.n8_9, h.n8_10, h.n9_10⟩
theorem chk120 (r : SRoot) (e : SEntry) (h : r.f2 < 0 ∨ r.f2 > 63) : checkI r e = 120 := by
 have hm : mayRI r = 120 := by unfold mayRI; rw [if_pos h]
 unfold checkI; rw [hm, if_neg (by decide)]
theorem chk70 (r : SRoot) (e : SEntry) (h : ¬(r.f2 < 0 ∨ r.f2 > 63)) (h2 : (r.f0.size : Int) < 1 ∨ (r.f0.size : Int) > 32) : checkI r e = 70 := by
 have hm : mayRI r = 70 := by unfold mayRI; rw [if_neg h, if_pos h2]
 unfold checkI; rw [hm, if_neg (by decide)]
theorem may_wide (r : SRoot) (h2 : (r.f0.size : Int) < 1 ∨ (r.f0.size : Int) > 32) : mayRI r ≠ 0 := by
 unfold mayRI
 by_cases h : r.f2 < 0 ∨ r.f2 > 63
 ·
  rw [if_pos h]; decide
 ·
  rw [if_neg h, if_pos h2]; decide
theorem checkAt (r : SRoot) (e : SEntry) (A : Option Addr) (c : Nat) (w : World) (v : Int) (hv : checkI r e = v) (hK : LaidT w) (hr : Kd.C kNode w A e.f1.f1.length e.f1.f1) (hc : e.f1.f1.length ≤ c) (he : OkE e) :
  Calls Tryd.prog 31 #[.agg (rootA r), .agg (entA e A c)] w fun x w' => x = .returned (.int .i64 v) ∧ Below w.heap.size w w' := hv ▸ check.calls r e A c w hK hr hc he
set_option maxRecDepth 100000 in
set_option maxHeartbeats 4000000 in
theorem lawhigh.calls (r : SRoot) (e : SEntry) (m : Int) (A : Option Addr) (c : Nat) (w : World) (hK : LaidT w) (hr : Kd.C kNode w A e.f1.f1.length e.f1.f1) (hc : e.f1.f1.length ≤ c) (he : wfEntry e) (hm : 0 ≤ m ∧ m ≤ 255) :
  Calls Tryd.prog 11 #[.agg (rootA r), .agg (entA e A c), .int .u8 m] w fun x w' => x = .returned (.bool true) ∧ Below w.heap.size w w' := by
 obtain ⟨bL, hev, hf⟩ := long17_ev r [e] (by simpa using he)
 obtain ⟨kL, hL⟩ := hev.rounds
 have HK := aM' hK
 have HR := aM' hr
 have HC := aM' hc
 have HM := aM' hm
 have HLo := aM' hL
 have HF := aM' hf
 clear hK hr hc hm hL hf hev he
 go_enter Tryd.func11, Tryd.ntmps11
 go_wp2_with fail
 have hbe := blk_new ((w.alloc (.cells (rootA r) 66 (0, 0))).alloc (.cells (entA e A c) 63 (0, 0))) (.cells (entA e A c) 63 (0, 0))
 have hsz : ((w.alloc (.cells (rootA r) 66 (0, 0))).alloc (.cells (entA e A c) 63 (0, 0))).heap.size = w.heap.size + 1 + 1 := by simp
 rw [hsz] at hbe
 have hBa : Below w.heap.size w (((w.alloc (.cells (rootA r) 66 (0, 0))).alloc (.cells (entA e A c) 63 (0, 0))).alloc (.cells (entA e A c) 63 (0, 0))) := below_alloc (below_alloc (below_alloc (Below.refl _ _) _) _) _
 refine (paymasterlaw17_Long.calls kL r.f0 r.f1.f0 r.f1.f1 r.f2 (some ⟨w.heap.size + 1 + 1, 0, none⟩) 1 [e] bL _ (oneEntry_C hbe (Kd.C_below HR.out hBa) HC.out) (Nat.le_refl 1) HLo.out).mono ?_
 rintro x w1 ⟨rfl, hb1⟩
 have HB1 : Aside0 (Below w.heap.size w w1) := ⟨hBa.trans (hb1.mono hBa.size)⟩
 have H0 : Aside0 (w1.heap[w.heap.size]? = some (.cells (rootA r) 66 (0, 0))) := ⟨blk_below (blk_alloc (blk_alloc (blk_new w _) _) _) hb1⟩
 have H1 : Aside0 (w1.heap[w.heap.size + 1]? = some (.cells (entA e A c) 63 (0, 0))) := ⟨blk_below (blk_alloc (by have := blk_new (w.alloc (.cells (rootA r) 66 (0, 0))) (.cells (entA e A c) 63 (0, 0)); simpa using this) _) hb1⟩
 clear hbe hsz hBa hb1
 cases bL with
 | true =>
  go_wp2
  go_ret
  exact ⟨rfl, HB1.out⟩
 | false =>
 go_wp2
 refine region_inv (fun l a W => ∃ γ : Nat → Nat, a = ({ tmps := #[.agg (rootA r), .agg (entA e A c), .int .u8 m, .pointer (some ⟨w.heap.size, 0, none⟩), .pointer (some ⟨w.heap.size + 1, 0, none⟩), undef, .bool false, sel (l 4) (.pointer (some ⟨γ 0, 0, none⟩)) (undef), sel (l 5) (.pointer (some ⟨γ 1, 0, none⟩)) (undef), sel (l 6) (.pointer (some ⟨γ 2, 0, none⟩)) (undef), sel (l 7) (.pointer (some ⟨γ 3, 0, none⟩)) (undef), undef, undef, .agg #[.string r.f0, .int .u64 r.f1.f0, .int .u64 r.f1.f1, .int .i64 r.f2], .agg #[.bool e.f0.f0, .string e.f0.f1, .string e.f0.f2, .int .u64 e.f0.f3.f0, .int .u64 e.f0.f3.f1, .int .u64 e.f1.f0, .slice A e.f1.f1.length c], .slice (some ⟨w.heap.size + 1 + 1, 0, none⟩) 1 1, .bool false, sel (l 0) (.agg #[.string r.f0, .int .u64 r.f1.f0, .int .u64 r.f1.f1, .int .i64 r.f2]) (undef), sel (l 1) (.agg #[.string r.f0, .int .u64 r.f1.f0, .int .u64 r.f1.f1, .int .i64 r.f2]) (undef), sel (l 2) (.agg #[.string r.f0, .int .u64 r.f1.f0, .int .u64 r.f1.f1, .int .i64 r.f2]) (undef), sel (l 3) (.agg #[.string r.f0, .int .u64 r.f1.f0, .int .u64 r.f1.f1, .int .i64 r.f2]) (undef), undef, undef, undef, undef, undef, undef, undef, undef, undef, undef, undef, undef, undef, undef, undef, undef, undef, undef, undef, undef, undef, undef, undef, undef, undef, undef, undef, undef, undef, undef, undef, undef, undef, undef, undef, undef, undef, undef, undef, undef, undef, undef, undef, undef, undef, undef, undef, undef, undef, undef, undef, undef, undef, undef, undef, undef, undef, undef, undef, undef], defers := [] } : Act) ∧ HiI w W r e A c l γ) 12 rfl rfl (by kernel_rfl) ?h0 ?hend ?hstep
 case h0 => exact ⟨fun _ => 0, rfl, below_drew HB1.out, H0.out, H1.out, fun k _ => ⟨fun h => h, fun h => by cases h⟩, fun k k' _ _ _ h => by cases h⟩
 case hstep =>
  refine rg_cons (rg_cons (rg_cons (rg_cons (rg_cons (rg_cons (rg_cons (rg_cons (rg_cons (rg_cons (rg_cons (rg_cons (rg_nil) ?s0) ?s1) ?s2) ?s3) ?s4) ?s5) ?s6) ?s7) ?s8) ?s9) ?s10) ?s11
  case s0 =>
   refine rg_step rfl ?_
   rintro l a W ⟨γ, rfl, hI⟩ hl hd
   clear hd
   have x0 := blk_cell hI.2.1 0
   have x1 := blk_cell hI.2.1 1
   have x2 := blk_cell hI.2.1 2
   have x3 := blk_cell hI.2.1 3
   simp at x0 x1 x2 x3
   refine rg_val (v := .agg #[.string r.f0, .int .u64 r.f1.f0, .int .u64 r.f1.f1, .int .i64 r.f2]) (w' := W) rfl (by go_simp) ?_
   refine ⟨γ, ?_, ?_⟩
   ·
    simp only [Act.put, List.setIfInBounds_toArray, List.set_cons_zero, List.set_cons_succ]; rfl
   ·
    exact hI.load 0 (by decide)
  case s1 =>
   refine rg_step rfl ?_
   rintro l a W ⟨γ, rfl, hI⟩ hl hd
   clear hd
   have x0 := blk_cell hI.2.1 0
   have x1 := blk_cell hI.2.1 1
   have x2 := blk_cell hI.2.1 2
   have x3 := blk_cell hI.2.1 3
   simp at x0 x1 x2 x3
   refine rg_val (v := .agg #[.string r.f0, .int .u64 r.f1.f0, .int .u64 r.f1.f1, .int .i64 r.f2]) (w' := W) rfl (by go_simp) ?_
   refine ⟨γ, ?_, ?_⟩
   ·
    simp only [Act.put, List.setIfInBounds_toArray, List.set_cons_zero, List.set_cons_succ]; rfl
   ·
    exact hI.load 1 (by decide)
  case s2 =>
   refine rg_step rfl ?_
   rintro l a W ⟨γ, rfl, hI⟩ hl hd
   clear hd
   have x0 := blk_cell hI.2.1 0
   have x1 := blk_cell hI.2.1 1
   have x2 := blk_cell hI.2.1 2
   have x3 := blk_cell hI.2.1 3
   simp at x0 x1 x2 x3
   refine rg_val (v := .agg #[.string r.f0, .int .u64 r.f1.f0, .int .u64 r.f1.f1, .int .i64 r.f2]) (w' := W) rfl (by go_simp) ?_
   refine ⟨γ, ?_, ?_⟩
   ·
    simp only [Act.put, List.setIfInBounds_toArray, List.set_cons_zero, List.set_cons_succ]; rfl
   ·
    exact hI.load 2 (by decide)
  case s3 =>
   refine rg_step rfl ?_
   rintro l a W ⟨γ, rfl, hI⟩ hl hd
   clear hd
   have x0 := blk_cell hI.2.1 0
   have x1 := blk_cell hI.2.1 1
   have x2 := blk_cell hI.2.1 2
   have x3 := blk_cell hI.2.1 3
   simp at x0 x1 x2 x3
   refine rg_val (v := .agg #[.string r.f0, .int .u64 r.f1.f0, .int .u64 r.f1.f1, .int .i64 r.f2]) (w' := W) rfl (by go_simp) ?_
   refine ⟨γ, ?_, ?_⟩
   ·
    simp only [Act.put, List.setIfInBounds_toArray, List.set_cons_zero, List.set_cons_succ]; rfl
   ·
    exact hI.load 3 (by decide)
  case s4 =>
   refine rg_step rfl ?_
   rintro l a W ⟨γ, rfl, hI⟩ hl hd
   clear hd
   refine rg_val (v := .pointer (some ⟨W.heap.size, 0, none⟩)) (w' := W.alloc (.cells #[.string ⟨#[]⟩, .int .u64 0, .int .u64 0, .int .i64 0] 66 (0, 0))) rfl (by go_simp) ?_
   refine ⟨fun j => if j = 0 then W.heap.size else γ j, ?_, ?_⟩
   ·
    simp only [Act.put, List.setIfInBounds_toArray, List.set_cons_zero, List.set_cons_succ]; rfl
   ·
    exact hI.alloc 0 (by decide) hl
  case s5 =>
   refine rg_step rfl ?_
   rintro l a W ⟨γ, rfl, hI⟩ hl hd
   clear hd
   refine rg_val (v := .pointer (some ⟨W.heap.size, 0, none⟩)) (w' := W.alloc (.cells #[.string ⟨#[]⟩, .int .u64 0, .int .u64 0, .int .i64 0] 66 (0, 0))) rfl (by go_simp) ?_
   refine ⟨fun j => if j = 1 then W.heap.size else γ j, ?_, ?_⟩
   ·
    simp only [Act.put, List.setIfInBounds_toArray, List.set_cons_zero, List.set_cons_succ]; rfl
   ·
    exact hI.alloc 1 (by decide) hl
  case s6 =>
   refine rg_step rfl ?_
   rintro l a W ⟨γ, rfl, hI⟩ hl hd
   clear hd
   refine rg_val (v := .pointer (some ⟨W.heap.size, 0, none⟩)) (w' := W.alloc (.cells #[.string ⟨#[]⟩, .int .u64 0, .int .u64 0, .int .i64 0] 66 (0, 0))) rfl (by go_simp) ?_
   refine ⟨fun j => if j = 2 then W.heap.size else γ j, ?_, ?_⟩
   ·
    simp only [Act.put, List.setIfInBounds_toArray, List.set_cons_zero, List.set_cons_succ]; rfl
   ·
    exact hI.alloc 2 (by decide) hl
  case s7 =>
   refine rg_step rfl ?_
   rintro l a W ⟨γ, rfl, hI⟩ hl hd
   clear hd
   refine rg_val (v := .pointer (some ⟨W.heap.size, 0, none⟩)) (w' := W.alloc (.cells #[.string ⟨#[]⟩, .int .u64 0, .int .u64 0, .int .i64 0] 66 (0, 0))) rfl (by go_simp) ?_
   refine ⟨fun j => if j = 3 then W.heap.size else γ j, ?_, ?_⟩
   ·
    simp only [Act.put, List.setIfInBounds_toArray, List.set_cons_zero, List.set_cons_succ]; rfl
   ·
    exact hI.alloc 3 (by decide) hl
  case s8 =>
   refine rg_step rfl ?_
   rintro l a W ⟨γ, rfl, hI⟩ hl hd
   have d0 := hd 0 (by decide)
   have d4 := hd 4 (by decide)
   clear hd
   have hg := (hI.2.2.2.1 0 (by decide)).2 d4
   rw [show l (8 + 0) = false from hl, if_neg (by decide)] at hg
   have y0 := blk_cell hg.2 0
   have y1 := blk_cell hg.2 1
   have y2 := blk_cell hg.2 2
   have y3 := blk_cell hg.2 3
   have yf := fun i => blk_frozen hg.2 i
   simp at y0 y1 y2 y3
   refine rg_skip rfl (by go_simp; rfl) ?_
   refine ⟨γ, ?_, ?_⟩
   ·
    simp only [Act.put, List.setIfInBounds_toArray, List.set_cons_zero, List.set_cons_succ]; rfl
   ·
    exact hI.store 0 (by decide) hl d4
  case s9 =>
   refine rg_step rfl ?_
   rintro l a W ⟨γ, rfl, hI⟩ hl hd
   have d1 := hd 1 (by decide)
   have d5 := hd 5 (by decide)
   clear hd
   have hg := (hI.2.2.2.1 1 (by decide)).2 d5
   rw [show l (8 + 1) = false from hl, if_neg (by decide)] at hg
   have y0 := blk_cell hg.2 0
   have y1 := blk_cell hg.2 1
   have y2 := blk_cell hg.2 2
   have y3 := blk_cell hg.2 3
   have yf := fun i => blk_frozen hg.2 i
   simp at y0 y1 y2 y3
   refine rg_skip rfl (by go_simp; rfl) ?_
   refine ⟨γ, ?_, ?_⟩
   ·
    simp only [Act.put, List.setIfInBounds_toArray, List.set_cons_zero, List.set_cons_succ]; rfl
   ·
    exact hI.store 1 (by decide) hl d5
  case s10 =>
   refine rg_step rfl ?_
   rintro l a W ⟨γ, rfl, hI⟩ hl hd
   have d2 := hd 2 (by decide)
   have d6 := hd 6 (by decide)
   clear hd
   have hg := (hI.2.2.2.1 2 (by decide)).2 d6
   rw [show l (8 + 2) = false from hl, if_neg (by decide)] at hg
   have y0 := blk_cell hg.2 0
   have y1 := blk_cell hg.2 1
   have y2 := blk_cell hg.2 2
   have y3 := blk_cell hg.2 3
   have yf := fun i => blk_frozen hg.2 i
   simp at y0 y1 y2 y3
   refine rg_skip rfl (by go_simp; rfl) ?_
   refine ⟨γ, ?_, ?_⟩
   ·
    simp only [Act.put, List.setIfInBounds_toArray, List.set_cons_zero, List.set_cons_succ]; rfl
   ·
    exact hI.store 2 (by decide) hl d6
  case s11 =>
   refine rg_step rfl ?_
   rintro l a W ⟨γ, rfl, hI⟩ hl hd
   have d3 := hd 3 (by decide)
   have d7 := hd 7 (by decide)
   clear hd
   have hg := (hI.2.2.2.1 3 (by decide)).2 d7
   rw [show l (8 + 3) = false from hl, if_neg (by decide)] at hg
   have y0 := blk_cell hg.2 0
   have y1 := blk_cell hg.2 1
   have y2 := blk_cell hg.2 2
   have y3 := blk_cell hg.2 3
   have yf := fun i => blk_frozen hg.2 i
   simp at y0 y1 y2 y3
   refine rg_skip rfl (by go_simp; rfl) ?_
   refine ⟨γ, ?_, ?_⟩
   ·
    simp only [Act.put, List.setIfInBounds_toArray, List.set_cons_zero, List.set_cons_succ]; rfl
   ·
    exact hI.store 3 (by decide) hl d7
 case hend =>
  rintro l a W ⟨γ, rfl, hI⟩ hall
  have e0 := hall 0 (by decide)
  have e1 := hall 1 (by decide)
  have e2 := hall 2 (by decide)
  have e3 := hall 3 (by decide)
  have e4 := hall 4 (by decide)
  have e5 := hall 5 (by decide)
  have e6 := hall 6 (by decide)
  have e7 := hall 7 (by decide)
  have e8 := hall 8 (by decide)
  have e9 := hall 9 (by decide)
  have e10 := hall 10 (by decide)
  have e11 := hall 11 (by decide)
  clear hall
  have hD := hI.done (fun i hi => by have : i = 0 ∨ i = 1 ∨ i = 2 ∨ i = 3 ∨ i = 4 ∨ i = 5 ∨ i = 6 ∨ i = 7 ∨ i = 8 ∨ i = 9 ∨ i = 10 ∨ i = 11 := (by omega); rcases this with rfl | rfl | rfl | rfl | rfl | rfl | rfl | rfl | rfl | rfl | rfl | rfl <;> assumption)
  clear hI
  simp only [e0, e1, e2, e3, e4, e5, e6, e7, e8, e9, e10, e11, sel_true]
  clear e0 e1 e2 e3 e4 e5 e6 e7 e8 e9 e10 e11
  generalize γ 0 = g7 at hD ⊢
  generalize γ 1 = g8 at hD ⊢
  generalize γ 2 = g9 at hD ⊢
  generalize γ 3 = g10 at hD ⊢
  have HD := aM' hD
  clear hD
  have y7_0 : W.cell? ⟨g7, 0, none⟩ = some (.string r.f0) := blk_cell HD.out.b7 0
  have y8_0 : W.cell? ⟨g8, 0, none⟩ = some (.string r.f0) := blk_cell HD.out.b8 0
  have y9_0 : W.cell? ⟨g9, 0, none⟩ = some (.string r.f0) := blk_cell HD.out.b9 0
  have y10_0 : W.cell? ⟨g10, 0, none⟩ = some (.string r.f0) := blk_cell HD.out.b10 0
  have y7_1 : W.cell? ⟨g7, 1, none⟩ = some (.int .u64 r.f1.f0) := blk_cell HD.out.b7 1
  have y8_1 : W.cell? ⟨g8, 1, none⟩ = some (.int .u64 r.f1.f0) := blk_cell HD.out.b8 1
  have y9_1 : W.cell? ⟨g9, 1, none⟩ = some (.int .u64 r.f1.f0) := blk_cell HD.out.b9 1
  have y10_1 : W.cell? ⟨g10, 1, none⟩ = some (.int .u64 r.f1.f0) := blk_cell HD.out.b10 1
  have y7_2 : W.cell? ⟨g7, 2, none⟩ = some (.int .u64 r.f1.f1) := blk_cell HD.out.b7 2
  have y8_2 : W.cell? ⟨g8, 2, none⟩ = some (.int .u64 r.f1.f1) := blk_cell HD.out.b8 2
  have y9_2 : W.cell? ⟨g9, 2, none⟩ = some (.int .u64 r.f1.f1) := blk_cell HD.out.b9 2
  have y10_2 : W.cell? ⟨g10, 2, none⟩ = some (.int .u64 r.f1.f1) := blk_cell HD.out.b10 2
  have y7_3 : W.cell? ⟨g7, 3, none⟩ = some (.int .i64 r.f2) := blk_cell HD.out.b7 3
  have y8_3 : W.cell? ⟨g8, 3, none⟩ = some (.int .i64 r.f2) := blk_cell HD.out.b8 3
  have y9_3 : W.cell? ⟨g9, 3, none⟩ = some (.int .i64 r.f2) := blk_cell HD.out.b9 3
  have y10_3 : W.cell? ⟨g10, 3, none⟩ = some (.int .i64 r.f2) := blk_cell HD.out.b10 3
  have f7 : ∀ i, W.frozen? ⟨g7, i, none⟩ = false := fun i => blk_frozen HD.out.b7 i
  have f8 : ∀ i, W.frozen? ⟨g8, i, none⟩ = false := fun i => blk_frozen HD.out.b8 i
  have f9 : ∀ i, W.frozen? ⟨g9, i, none⟩ = false := fun i => blk_frozen HD.out.b9 i
  have f10 : ∀ i, W.frozen? ⟨g10, i, none⟩ = false := fun i => blk_frozen HD.out.b10 i
  have n7_8 := HD.out.n7_8
  have n8_7 := HD.out.n7_8.symm
  have n7_9 := HD.out.n7_9
  have n9_7 := HD.out.n7_9.symm
  have n7_10 := HD.out.n7_10
  have n10_7 := HD.out.n7_10.symm
  have n8_9 := HD.out.n8_9
  have n9_8 := HD.out.n8_9.symm
  have n8_10 := HD.out.n8_10
  have n10_8 := HD.out.n8_10.symm
  have n9_10 := HD.out.n9_10
  have n10_9 := HD.out.n9_10.symm
  have hm0 := HM.out
  have e1 : wrap64 m = m := wrap64_id (by omega) (by omega)
  have e2 : wrap64 (64 + m) = 64 + m := wrap64_id (by omega) (by omega)
  have e3 : wrap64 (-1 - m) = -1 - m := wrap64_id (by omega) (by omega)
  have e4 : wrap64 (33 + m) = 33 + m := wrap64_id (by omega) (by omega)
  clear hm0
  go_wp2
  have HD2 : Aside0 (HiD w ((((W.setCell ⟨g7, 3, none⟩ (.int .i64 (64 + m))).setCell ⟨g8, 3, none⟩ (.int .i64 (-1 - m))).setCell ⟨g9, 0, none⟩ (.string ⟨#[]⟩)).setCell ⟨g10, 0, none⟩ (.string ⟨#[]⟩)) e A c r ⟨r.f0, r.f1, 64 + m⟩ ⟨r.f0, r.f1, -1 - m⟩ ⟨⟨#[]⟩, r.f1, r.f2⟩ ⟨⟨#[]⟩, r.f1, r.f2⟩ g7 g8 g9 g10) := ⟨(((HD.out.set7 (64 + m)).set8 (-1 - m)).set9 ⟨#[]⟩).set10 ⟨#[]⟩⟩
  clear y7_0 y7_1 y7_2 y7_3 y8_0 y8_1 y8_2 y8_3 y9_0 y9_1 y9_2 y9_3 y10_0 y10_1 y10_2 y10_3 n7_8 n8_7 n7_9 n9_7 n7_10 n10_7 n8_9 n9_8 n8_10 n10_8 n9_10 n10_9 f7 f8 f9 f10 HD
  go_loopw [11] (fun v11 wr => ∃ (i : Nat) (h : ByteArray), (i : Int) ≤ 33 + m ∧ h.size = i ∧ v11 = .int .i64 i ∧ Aside0 (HiD w wr e A c r ⟨r.f0, r.f1, 64 + m⟩ ⟨r.f0, r.f1, -1 - m⟩ ⟨⟨#[]⟩, r.f1, r.f2⟩ ⟨h, r.f1, r.f2⟩ g7 g8 g9 g10)) (fun v11 _ => (33 + m).toNat - (intOf v11).toNat)
  case atStart => exact ⟨0, ⟨#[]⟩, by have := HM.out; omega, rfl, rfl, HD2⟩
  case round =>
   obtain ⟨i, h, hi, hh, rfl, HT⟩ := hrel
   have hm1 := HM.out
   by_cases hlt : (i : Int) < 33 + m
   ·
    have b1 : decide ((i : Int) < 33 + m) = true := decide_eq_true hlt
    have e5 : wrap64 ((i : Int) + 1) = (i : Int) + 1 := wrap64_id (by omega) (by omega)
    have t0 : wr.cell? ⟨g10, 0, none⟩ = some (.string h) := blk_cell HT.out.b10 0
    have tf : ∀ i, wr.frozen? ⟨g10, i, none⟩ = false := fun i => blk_frozen HT.out.b10 i
    have hs : h.size ≤ 300 := by omega
    go_wp2
    go_roundw
    case rel => exact ⟨i + 1, h ++ ⟨#[97]⟩, by omega, by rw [ByteArray.size_append, hh]; rfl, by first | rfl | rw [e5]; rfl | go_num, ⟨HT.out.set10 _⟩⟩
    case measure => simp [intOf]; omega
   ·
    have b1 : decide ((i : Int) < 33 + m) = false := decide_eq_false hlt
    have hsz : (h.size : Int) = 33 + m := by omega
    have ra3 : wr.cell? ⟨w.heap.size, 3, none⟩ = some (.int .i64 r.f2) := blk_cell HT.out.h0 3
    by_cases hin : 0 ≤ r.f2 ∧ r.f2 ≤ 63
    ·
     have c1 : decide (0 ≤ r.f2) = true := decide_eq_true hin.1
     have c2 : decide (r.f2 ≤ 63) = true := decide_eq_true hin.2
     have HOE : Aside0 (OkE e) := ⟨(HF.out trivial).2.2 e (by simp)⟩
     obtain ⟨kv, hkv⟩ := verifyMay_ev ⟨h, r.f1, r.f2⟩
     have hmn : (mayRI ⟨h, r.f1, r.f2⟩ != 0) = true := by simp [may_wide ⟨h, r.f1, r.f2⟩ (.inr (by show (h.size : Int) > 32; omega))]
     have HMv := aM' (hkv kv (Nat.le_refl _))
     clear hkv
     generalize mayRI ⟨h, r.f1, r.f2⟩ = mw at HMv hmn
     dsimp only at HMv
     have c1 : decide (0 ≤ r.f2) = true := decide_eq_true hin.1
     have c2 : decide (r.f2 ≤ 63) = true := decide_eq_true hin.2
     have z0 : wr.cell? ⟨g7, 0, none⟩ = some (.string r.f0) := blk_cell HT.out.b7 0
     have z1 : wr.cell? ⟨g7, 1, none⟩ = some (.int .u64 r.f1.f0) := blk_cell HT.out.b7 1
     have z2 : wr.cell? ⟨g7, 2, none⟩ = some (.int .u64 r.f1.f1) := blk_cell HT.out.b7 2
     have z3 : wr.cell? ⟨g7, 3, none⟩ = some (.int .i64 (64 + m)) := blk_cell HT.out.b7 3
     have ea0 : wr.cell? ⟨w.heap.size + 1, 0, none⟩ = some (.bool e.f0.f0) := blk_cell HT.out.h1 0
     have ea1 : wr.cell? ⟨w.heap.size + 1, 1, none⟩ = some (.string e.f0.f1) := blk_cell HT.out.h1 1
     have ea2 : wr.cell? ⟨w.heap.size + 1, 2, none⟩ = some (.string e.f0.f2) := blk_cell HT.out.h1 2
     have ea3 : wr.cell? ⟨w.heap.size + 1, 3, none⟩ = some (.int .u64 e.f0.f3.f0) := blk_cell HT.out.h1 3
     have ea4 : wr.cell? ⟨w.heap.size + 1, 4, none⟩ = some (.int .u64 e.f0.f3.f1) := blk_cell HT.out.h1 4
     have ea5 : wr.cell? ⟨w.heap.size + 1, 5, none⟩ = some (.int .u64 e.f1.f0) := blk_cell HT.out.h1 5
     have ea6 : wr.cell? ⟨w.heap.size + 1, 6, none⟩ = some (.slice A e.f1.f1.length c) := blk_cell HT.out.h1 6
     go_wp2_with fail
     refine (checkAt ⟨r.f0, r.f1, 64 + m⟩ e A c _ 120 (chk120 _ _ (.inr (by show 64 + m > 63; omega))) (HK.out.below HT.out.hB) (Kd.C_below HR.out HT.out.hB) HC.out HOE.out).mono ?_
     rintro x w5 ⟨rfl, hb⟩
     have HT5 := aM' (HT.out.below hb)
     clear z0 z1 z2 z3 ea0 ea1 ea2 ea3 ea4 ea5 ea6 hb
     have z0 : w5.cell? ⟨g8, 0, none⟩ = some (.string r.f0) := blk_cell HT5.out.b8 0
     have z1 : w5.cell? ⟨g8, 1, none⟩ = some (.int .u64 r.f1.f0) := blk_cell HT5.out.b8 1
     have z2 : w5.cell? ⟨g8, 2, none⟩ = some (.int .u64 r.f1.f1) := blk_cell HT5.out.b8 2
     have z3 : w5.cell? ⟨g8, 3, none⟩ = some (.int .i64 (-1 - m)) := blk_cell HT5.out.b8 3
     have ea0 : w5.cell? ⟨w.heap.size + 1, 0, none⟩ = some (.bool e.f0.f0) := blk_cell HT5.out.h1 0
     have ea1 : w5.cell? ⟨w.heap.size + 1, 1, none⟩ = some (.string e.f0.f1) := blk_cell HT5.out.h1 1
     have ea2 : w5.cell? ⟨w.heap.size + 1, 2, none⟩ = some (.string e.f0.f2) := blk_cell HT5.out.h1 2
     have ea3 : w5.cell? ⟨w.heap.size + 1, 3, none⟩ = some (.int .u64 e.f0.f3.f0) := blk_cell HT5.out.h1 3
     have ea4 : w5.cell? ⟨w.heap.size + 1, 4, none⟩ = some (.int .u64 e.f0.f3.f1) := blk_cell HT5.out.h1 4
     have ea5 : w5.cell? ⟨w.heap.size + 1, 5, none⟩ = some (.int .u64 e.f1.f0) := blk_cell HT5.out.h1 5
     have ea6 : w5.cell? ⟨w.heap.size + 1, 6, none⟩ = some (.slice A e.f1.f1.length c) := blk_cell HT5.out.h1 6
     go_wp2_with fail
     refine (checkAt ⟨r.f0, r.f1, -1 - m⟩ e A c _ 120 (chk120 _ _ (.inl (by show -1 - m < 0; omega))) (HK.out.below HT5.out.hB) (Kd.C_below HR.out HT5.out.hB) HC.out HOE.out).mono ?_
     rintro x w6 ⟨rfl, hb⟩
     have HT6 := aM' (HT5.out.below hb)
     clear z0 z1 z2 z3 ea0 ea1 ea2 ea3 ea4 ea5 ea6 hb
     have z0 : w6.cell? ⟨g9, 0, none⟩ = some (.string ⟨#[]⟩) := blk_cell HT6.out.b9 0
     have z1 : w6.cell? ⟨g9, 1, none⟩ = some (.int .u64 r.f1.f0) := blk_cell HT6.out.b9 1
     have z2 : w6.cell? ⟨g9, 2, none⟩ = some (.int .u64 r.f1.f1) := blk_cell HT6.out.b9 2
     have z3 : w6.cell? ⟨g9, 3, none⟩ = some (.int .i64 r.f2) := blk_cell HT6.out.b9 3
     have ea0 : w6.cell? ⟨w.heap.size + 1, 0, none⟩ = some (.bool e.f0.f0) := blk_cell HT6.out.h1 0
     have ea1 : w6.cell? ⟨w.heap.size + 1, 1, none⟩ = some (.string e.f0.f1) := blk_cell HT6.out.h1 1
     have ea2 : w6.cell? ⟨w.heap.size + 1, 2, none⟩ = some (.string e.f0.f2) := blk_cell HT6.out.h1 2
     have ea3 : w6.cell? ⟨w.heap.size + 1, 3, none⟩ = some (.int .u64 e.f0.f3.f0) := blk_cell HT6.out.h1 3
     have ea4 : w6.cell? ⟨w.heap.size + 1, 4, none⟩ = some (.int .u64 e.f0.f3.f1) := blk_cell HT6.out.h1 4
     have ea5 : w6.cell? ⟨w.heap.size + 1, 5, none⟩ = some (.int .u64 e.f1.f0) := blk_cell HT6.out.h1 5
     have ea6 : w6.cell? ⟨w.heap.size + 1, 6, none⟩ = some (.slice A e.f1.f1.length c) := blk_cell HT6.out.h1 6
     go_wp2_with fail
     refine (checkAt ⟨⟨#[]⟩, r.f1, r.f2⟩ e A c _ 70 (chk70 _ _ (by show ¬(r.f2 < 0 ∨ r.f2 > 63); omega) (.inl (by show ((0 : Nat) : Int) < 1; omega))) (HK.out.below HT6.out.hB) (Kd.C_below HR.out HT6.out.hB) HC.out HOE.out).mono ?_
     rintro x w7 ⟨rfl, hb⟩
     have HT7 := aM' (HT6.out.below hb)
     clear z0 z1 z2 z3 ea0 ea1 ea2 ea3 ea4 ea5 ea6 hb
     have z0 : w7.cell? ⟨g10, 0, none⟩ = some (.string h) := blk_cell HT7.out.b10 0
     have z1 : w7.cell? ⟨g10, 1, none⟩ = some (.int .u64 r.f1.f0) := blk_cell HT7.out.b10 1
     have z2 : w7.cell? ⟨g10, 2, none⟩ = some (.int .u64 r.f1.f1) := blk_cell HT7.out.b10 2
     have z3 : w7.cell? ⟨g10, 3, none⟩ = some (.int .i64 r.f2) := blk_cell HT7.out.b10 3
     have ea0 : w7.cell? ⟨w.heap.size + 1, 0, none⟩ = some (.bool e.f0.f0) := blk_cell HT7.out.h1 0
     have ea1 : w7.cell? ⟨w.heap.size + 1, 1, none⟩ = some (.string e.f0.f1) := blk_cell HT7.out.h1 1
     have ea2 : w7.cell? ⟨w.heap.size + 1, 2, none⟩ = some (.string e.f0.f2) := blk_cell HT7.out.h1 2
     have ea3 : w7.cell? ⟨w.heap.size + 1, 3, none⟩ = some (.int .u64 e.f0.f3.f0) := blk_cell HT7.out.h1 3
     have ea4 : w7.cell? ⟨w.heap.size + 1, 4, none⟩ = some (.int .u64 e.f0.f3.f1) := blk_cell HT7.out.h1 4
     have ea5 : w7.cell? ⟨w.heap.size + 1, 5, none⟩ = some (.int .u64 e.f1.f0) := blk_cell HT7.out.h1 5
     have ea6 : w7.cell? ⟨w.heap.size + 1, 6, none⟩ = some (.slice A e.f1.f1.length c) := blk_cell HT7.out.h1 6
     go_wp2_with fail
     refine (checkAt ⟨h, r.f1, r.f2⟩ e A c _ 70 (chk70 _ _ (by show ¬(r.f2 < 0 ∨ r.f2 > 63); omega) (.inr (by show (h.size : Int) > 32; omega))) (HK.out.below HT7.out.hB) (Kd.C_below HR.out HT7.out.hB) HC.out HOE.out).mono ?_
     rintro x w8 ⟨rfl, hb⟩
     have HT8 := aM' (HT7.out.below hb)
     clear z0 z1 z2 z3 ea0 ea1 ea2 ea3 ea4 ea5 ea6 hb
     have z0 : w8.cell? ⟨g10, 0, none⟩ = some (.string h) := blk_cell HT8.out.b10 0
     have z1 : w8.cell? ⟨g10, 1, none⟩ = some (.int .u64 r.f1.f0) := blk_cell HT8.out.b10 1
     have z2 : w8.cell? ⟨g10, 2, none⟩ = some (.int .u64 r.f1.f1) := blk_cell HT8.out.b10 2
     have z3 : w8.cell? ⟨g10, 3, none⟩ = some (.int .i64 r.f2) := blk_cell HT8.out.b10 3
     go_wp2_with fail
     refine (verify_May.calls kv h r.f1.f0 r.f1.f1 r.f2 _ _ HMv.out).mono ?_
     rintro x w9 ⟨rfl, hb⟩
     have HT9 := aM' (HT8.out.below hb)
     clear z0 z1 z2 z3 hb
     go_wp2
     go_ret
     exact ⟨rfl, HT9.out.hB⟩
    ·
     by_cases hneg : 0 ≤ r.f2
     ·
      have c1 : decide (0 ≤ r.f2) = true := decide_eq_true hneg
      have c2 : decide (r.f2 ≤ 63) = false := decide_eq_false (fun h => hin ⟨hneg, h⟩)
      have HOE : Aside0 (OkE e) := ⟨(HF.out trivial).2.2 e (by simp)⟩
      obtain ⟨kv, hkv⟩ := verifyMay_ev ⟨h, r.f1, r.f2⟩
      have hmn : (mayRI ⟨h, r.f1, r.f2⟩ != 0) = true := by simp [may_wide ⟨h, r.f1, r.f2⟩ (.inr (by show (h.size : Int) > 32; omega))]
      have HMv := aM' (hkv kv (Nat.le_refl _))
      clear hkv
      generalize mayRI ⟨h, r.f1, r.f2⟩ = mw at HMv hmn
      dsimp only at HMv
      have z0 : wr.cell? ⟨g7, 0, none⟩ = some (.string r.f0) := blk_cell HT.out.b7 0
      have z1 : wr.cell? ⟨g7, 1, none⟩ = some (.int .u64 r.f1.f0) := blk_cell HT.out.b7 1
      have z2 : wr.cell? ⟨g7, 2, none⟩ = some (.int .u64 r.f1.f1) := blk_cell HT.out.b7 2
      have z3 : wr.cell? ⟨g7, 3, none⟩ = some (.int .i64 (64 + m)) := blk_cell HT.out.b7 3
      have ea0 : wr.cell? ⟨w.heap.size + 1, 0, none⟩ = some (.bool e.f0.f0) := blk_cell HT.out.h1 0
      have ea1 : wr.cell? ⟨w.heap.size + 1, 1, none⟩ = some (.string e.f0.f1) := blk_cell HT.out.h1 1
      have ea2 : wr.cell? ⟨w.heap.size + 1, 2, none⟩ = some (.string e.f0.f2) := blk_cell HT.out.h1 2
      have ea3 : wr.cell? ⟨w.heap.size + 1, 3, none⟩ = some (.int .u64 e.f0.f3.f0) := blk_cell HT.out.h1 3
      have ea4 : wr.cell? ⟨w.heap.size + 1, 4, none⟩ = some (.int .u64 e.f0.f3.f1) := blk_cell HT.out.h1 4
      have ea5 : wr.cell? ⟨w.heap.size + 1, 5, none⟩ = some (.int .u64 e.f1.f0) := blk_cell HT.out.h1 5
      have ea6 : wr.cell? ⟨w.heap.size + 1, 6, none⟩ = some (.slice A e.f1.f1.length c) := blk_cell HT.out.h1 6
      go_wp2_with fail
      refine (checkAt ⟨r.f0, r.f1, 64 + m⟩ e A c _ 120 (chk120 _ _ (.inr (by show 64 + m > 63; omega))) (HK.out.below HT.out.hB) (Kd.C_below HR.out HT.out.hB) HC.out HOE.out).mono ?_
      rintro x w5 ⟨rfl, hb⟩
      have HT5 := aM' (HT.out.below hb)
      clear z0 z1 z2 z3 ea0 ea1 ea2 ea3 ea4 ea5 ea6 hb
      have z0 : w5.cell? ⟨g8, 0, none⟩ = some (.string r.f0) := blk_cell HT5.out.b8 0
      have z1 : w5.cell? ⟨g8, 1, none⟩ = some (.int .u64 r.f1.f0) := blk_cell HT5.out.b8 1
      have z2 : w5.cell? ⟨g8, 2, none⟩ = some (.int .u64 r.f1.f1) := blk_cell HT5.out.b8 2
      have z3 : w5.cell? ⟨g8, 3, none⟩ = some (.int .i64 (-1 - m)) := blk_cell HT5.out.b8 3
      have ea0 : w5.cell? ⟨w.heap.size + 1, 0, none⟩ = some (.bool e.f0.f0) := blk_cell HT5.out.h1 0
      have ea1 : w5.cell? ⟨w.heap.size + 1, 1, none⟩ = some (.string e.f0.f1) := blk_cell HT5.out.h1 1
      have ea2 : w5.cell? ⟨w.heap.size + 1, 2, none⟩ = some (.string e.f0.f2) := blk_cell HT5.out.h1 2
      have ea3 : w5.cell? ⟨w.heap.size + 1, 3, none⟩ = some (.int .u64 e.f0.f3.f0) := blk_cell HT5.out.h1 3
      have ea4 : w5.cell? ⟨w.heap.size + 1, 4, none⟩ = some (.int .u64 e.f0.f3.f1) := blk_cell HT5.out.h1 4
      have ea5 : w5.cell? ⟨w.heap.size + 1, 5, none⟩ = some (.int .u64 e.f1.f0) := blk_cell HT5.out.h1 5
      have ea6 : w5.cell? ⟨w.heap.size + 1, 6, none⟩ = some (.slice A e.f1.f1.length c) := blk_cell HT5.out.h1 6
      go_wp2_with fail
      refine (checkAt ⟨r.f0, r.f1, -1 - m⟩ e A c _ 120 (chk120 _ _ (.inl (by show -1 - m < 0; omega))) (HK.out.below HT5.out.hB) (Kd.C_below HR.out HT5.out.hB) HC.out HOE.out).mono ?_
      rintro x w6 ⟨rfl, hb⟩
      have HT6 := aM' (HT5.out.below hb)
      clear z0 z1 z2 z3 ea0 ea1 ea2 ea3 ea4 ea5 ea6 hb
      have z0 : w6.cell? ⟨g10, 0, none⟩ = some (.string h) := blk_cell HT6.out.b10 0
      have z1 : w6.cell? ⟨g10, 1, none⟩ = some (.int .u64 r.f1.f0) := blk_cell HT6.out.b10 1
      have z2 : w6.cell? ⟨g10, 2, none⟩ = some (.int .u64 r.f1.f1) := blk_cell HT6.out.b10 2
      have z3 : w6.cell? ⟨g10, 3, none⟩ = some (.int .i64 r.f2) := blk_cell HT6.out.b10 3
      go_wp2_with fail
      refine (verify_May.calls kv h r.f1.f0 r.f1.f1 r.f2 _ _ HMv.out).mono ?_
      rintro x w9 ⟨rfl, hb⟩
      have HT9 := aM' (HT6.out.below hb)
      clear z0 z1 z2 z3 hb
      go_wp2
      go_ret
      exact ⟨rfl, HT9.out.hB⟩
     ·
      have c1 : decide (0 ≤ r.f2) = false := decide_eq_false hneg
      have HOE : Aside0 (OkE e) := ⟨(HF.out trivial).2.2 e (by simp)⟩
      obtain ⟨kv, hkv⟩ := verifyMay_ev ⟨h, r.f1, r.f2⟩
      have hmn : (mayRI ⟨h, r.f1, r.f2⟩ != 0) = true := by simp [may_wide ⟨h, r.f1, r.f2⟩ (.inr (by show (h.size : Int) > 32; omega))]
      have HMv := aM' (hkv kv (Nat.le_refl _))
      clear hkv
      generalize mayRI ⟨h, r.f1, r.f2⟩ = mw at HMv hmn
      dsimp only at HMv
      have z0 : wr.cell? ⟨g7, 0, none⟩ = some (.string r.f0) := blk_cell HT.out.b7 0
      have z1 : wr.cell? ⟨g7, 1, none⟩ = some (.int .u64 r.f1.f0) := blk_cell HT.out.b7 1
      have z2 : wr.cell? ⟨g7, 2, none⟩ = some (.int .u64 r.f1.f1) := blk_cell HT.out.b7 2
      have z3 : wr.cell? ⟨g7, 3, none⟩ = some (.int .i64 (64 + m)) := blk_cell HT.out.b7 3
      have ea0 : wr.cell? ⟨w.heap.size + 1, 0, none⟩ = some (.bool e.f0.f0) := blk_cell HT.out.h1 0
      have ea1 : wr.cell? ⟨w.heap.size + 1, 1, none⟩ = some (.string e.f0.f1) := blk_cell HT.out.h1 1
      have ea2 : wr.cell? ⟨w.heap.size + 1, 2, none⟩ = some (.string e.f0.f2) := blk_cell HT.out.h1 2
      have ea3 : wr.cell? ⟨w.heap.size + 1, 3, none⟩ = some (.int .u64 e.f0.f3.f0) := blk_cell HT.out.h1 3
      have ea4 : wr.cell? ⟨w.heap.size + 1, 4, none⟩ = some (.int .u64 e.f0.f3.f1) := blk_cell HT.out.h1 4
      have ea5 : wr.cell? ⟨w.heap.size + 1, 5, none⟩ = some (.int .u64 e.f1.f0) := blk_cell HT.out.h1 5
      have ea6 : wr.cell? ⟨w.heap.size + 1, 6, none⟩ = some (.slice A e.f1.f1.length c) := blk_cell HT.out.h1 6
      go_wp2_with fail
      refine (checkAt ⟨r.f0, r.f1, 64 + m⟩ e A c _ 120 (chk120 _ _ (.inr (by show 64 + m > 63; omega))) (HK.out.below HT.out.hB) (Kd.C_below HR.out HT.out.hB) HC.out HOE.out).mono ?_
      rintro x w5 ⟨rfl, hb⟩
      have HT5 := aM' (HT.out.below hb)
      clear z0 z1 z2 z3 ea0 ea1 ea2 ea3 ea4 ea5 ea6 hb
      have z0 : w5.cell? ⟨g8, 0, none⟩ = some (.string r.f0) := blk_cell HT5.out.b8 0
      have z1 : w5.cell? ⟨g8, 1, none⟩ = some (.int .u64 r.f1.f0) := blk_cell HT5.out.b8 1
      have z2 : w5.cell? ⟨g8, 2, none⟩ = some (.int .u64 r.f1.f1) := blk_cell HT5.out.b8 2
      have z3 : w5.cell? ⟨g8, 3, none⟩ = some (.int .i64 (-1 - m)) := blk_cell HT5.out.b8 3
      have ea0 : w5.cell? ⟨w.heap.size + 1, 0, none⟩ = some (.bool e.f0.f0) := blk_cell HT5.out.h1 0
      have ea1 : w5.cell? ⟨w.heap.size + 1, 1, none⟩ = some (.string e.f0.f1) := blk_cell HT5.out.h1 1
      have ea2 : w5.cell? ⟨w.heap.size + 1, 2, none⟩ = some (.string e.f0.f2) := blk_cell HT5.out.h1 2
      have ea3 : w5.cell? ⟨w.heap.size + 1, 3, none⟩ = some (.int .u64 e.f0.f3.f0) := blk_cell HT5.out.h1 3
      have ea4 : w5.cell? ⟨w.heap.size + 1, 4, none⟩ = some (.int .u64 e.f0.f3.f1) := blk_cell HT5.out.h1 4
      have ea5 : w5.cell? ⟨w.heap.size + 1, 5, none⟩ = some (.int .u64 e.f1.f0) := blk_cell HT5.out.h1 5
      have ea6 : w5.cell? ⟨w.heap.size + 1, 6, none⟩ = some (.slice A e.f1.f1.length c) := blk_cell HT5.out.h1 6
      go_wp2_with fail
      refine (checkAt ⟨r.f0, r.f1, -1 - m⟩ e A c _ 120 (chk120 _ _ (.inl (by show -1 - m < 0; omega))) (HK.out.below HT5.out.hB) (Kd.C_below HR.out HT5.out.hB) HC.out HOE.out).mono ?_
      rintro x w6 ⟨rfl, hb⟩
      have HT6 := aM' (HT5.out.below hb)
      clear z0 z1 z2 z3 ea0 ea1 ea2 ea3 ea4 ea5 ea6 hb
      have z0 : w6.cell? ⟨g10, 0, none⟩ = some (.string h) := blk_cell HT6.out.b10 0
      have z1 : w6.cell? ⟨g10, 1, none⟩ = some (.int .u64 r.f1.f0) := blk_cell HT6.out.b10 1
      have z2 : w6.cell? ⟨g10, 2, none⟩ = some (.int .u64 r.f1.f1) := blk_cell HT6.out.b10 2
      have z3 : w6.cell? ⟨g10, 3, none⟩ = some (.int .i64 r.f2) := blk_cell HT6.out.b10 3
      go_wp2_with fail
      refine (verify_May.calls kv h r.f1.f0 r.f1.f1 r.f2 _ _ HMv.out).mono ?_
      rintro x w9 ⟨rfl, hb⟩
      have HT9 := aM' (HT6.out.below hb)
      clear z0 z1 z2 z3 hb
      go_wp2
      go_ret
      exact ⟨rfl, HT9.out.hB⟩
instance decWfH (x : SEntry) : Decidable (wfEntry x) := by
 unfold wfEntry wfLeaf wfProof wfU128
 simp only [wfNode, wfU128]
 infer_instance
def paymasterlaw17_VerifyHigh.f (a0_0 : ByteArray) (a0_1 a0_2 a0_3 : Int) (a1_0 : Bool) (a1_1 a1_2 : ByteArray) (a1_3 a1_4 a1_5 : Int) (l : List SNode) (a2 : Int) : Option Bool := if wfEntry ⟨⟨a1_0, a1_1, a1_2, ⟨a1_3, a1_4⟩⟩, ⟨a1_5, l⟩⟩ ∧ 0 ≤ a2 ∧ a2 ≤ 255 then some true else none
theorem paymasterlaw17_VerifyHigh.calls (a0_0 : ByteArray) (a0_1 a0_2 a0_3 : Int) (a1_0 : Bool) (a1_1 a1_2 : ByteArray) (a1_3 a1_4 a1_5 : Int) (A : Option Addr) (c : Nat) (l : List SNode) (a2 : Int) (r : Bool) (w : World) (hK : LaidT w) (hr : Kd.C kNode w A l.length l) (hc : l.length ≤ c) (h : paymasterlaw17_VerifyHigh.f a0_0 a0_1 a0_2 a0_3 a1_0 a1_1 a1_2 a1_3 a1_4 a1_5 l a2 = some r) :
  Calls Tryd.prog 11 #[.agg #[.string a0_0, .int .u64 a0_1, .int .u64 a0_2, .int .i64 a0_3], .agg #[.bool a1_0, .string a1_1, .string a1_2, .int .u64 a1_3, .int .u64 a1_4, .int .u64 a1_5, .slice A l.length c], .int .u8 a2] w fun e w' => e = .returned (.bool r) ∧ Below w.heap.size w w' := by
 unfold paymasterlaw17_VerifyHigh.f at h
 split at h
 ·
  rename_i hh
  cases h
  exact lawhigh.calls ⟨a0_0, ⟨a0_1, a0_2⟩, a0_3⟩ ⟨⟨a1_0, a1_1, a1_2, ⟨a1_3, a1_4⟩⟩, ⟨a1_5, l⟩⟩ a2 A c w hK hr hc hh.1 hh.2
 ·
  cases h
end Go.Proofs.YtlmmpncdemblbaaDoor.P
namespace Go.Proofs.YtlmmpncdemblbaaDoor.P
open Go.RowKit Go.Proofs.YtlmmpncdemblbaaDoorW.PrintWords Go.Proofs.YtlmmpncdemblbaaDoorW.PrintLast Go.Proofs.YtlmmpncdemblbaaDoorW.PrintMore
set_option linter.unusedVariables false
set_option linter.unusedSimpArgs false
set_option linter.unnecessarySimpa false
theorem pure_VerifyHigh : ∀ (y0 : SRoot) (y1 : SEntry) (y2 : Int), wfRoot y0 → wfEntry y1 → (Lit.int .u8 y2).wf = true → paymasterlaw17_VerifyHigh.f y0.f0 y0.f1.f0 y0.f1.f1 y0.f2 y1.f0.f0 y1.f0.f1 y1.f0.f2 y1.f0.f3.f0 y1.f0.f3.f1 y1.f1.f0 y1.f1.f1 y2 = some true := by
 intro r e m _ he hm
 have := wf_u8 hm
 unfold paymasterlaw17_VerifyHigh.f
 rw [if_pos ⟨he, by omega, by omega⟩]
end Go.Proofs.YtlmmpncdemblbaaDoor.P
namespace Go.Proofs.YtlmmpncdemblbaaDoor.verifyHigh
open Go.Proofs.YtlmmpncdemblbaaDoor.P Go.ChangeShapes Go.WideShapes Go.ChangeAt Go.RowKit
open Go.ChangeMaps (open_string shut_string)
open Go.Proofs.YtlmmpncdemblbaaDoorW.PrintWords Go.Proofs.YtlmmpncdemblbaaDoorW.PrintLast Go.Proofs.YtlmmpncdemblbaaDoorW.PrintMore
set_option linter.unusedVariables false
set_option linter.unusedSimpArgs false
theorem own : ownKnob Tryd.prog.godebug = none := by kernel_rfl
theorem laidOut : laidOutB Tryd.prog = true := by kernel_rfl
set_option maxRecDepth 100000 in
theorem lifted (os : Os) (started : os.Started) (H : Type) (enc : TypeId × Value → H) :
    ReturnsInHanded {} Tryd.checked os 11 .any (fun w args => (Rows.verifyHighSpec.pre enc Tryd.prog Tryd.f11 [] false w args ∧ laidMetH Tryd.prog Rows.verifyHighRow.laid w) ∧ sizedMet enc Tryd.prog Tryd.f11 (OpenSpec.ofChange Rows.verifyHighSpec) false w args)
      (Rows.verifyHighSpec.post enc Tryd.prog Tryd.f11 false true false false) := by
  refine returnsInHanded_of_change_and (C := Tryd.checked) (X := fun w _ => laidMetH Tryd.prog Rows.verifyHighRow.laid w) (fun _ _ _ hh h => h.of_heap hh) own started (by kernel_rfl) Tryd.func11
    (ChangeSpec.witness_at (enc := enc) (C := Tryd.checked) (os := os) (X := fun w _ => laidMetH Tryd.prog Rows.verifyHighRow.laid w) false (P.laidWorldT os) #[.agg #[.string ByteArray.empty, .int .u64 0, .int .u64 0, .int .i64 0], .agg #[.bool false, .string ByteArray.empty, .string ByteArray.empty, .int .u64 0, .int .u64 0, .int .u64 0, .slice none 0 0], .int .u8 0] 8 rfl (by kernel_rfl) (by kernel_rfl) (by kernel_rfl) (by kernel_rfl) (by kernel_rfl) (P.laidWorldT_met os _)) ?_
  intro W base args ds gs before hval0 hW _ hsz0 hL _
  have hval : ∀ (j : Nat) t v, Tryd.f11.params[j]? = some t → args[j]? = some v → Value.okWide Tryd.prog W .any base t v := hval0
  have hW' := hW
  obtain ⟨p, q, hA0, hV, rfl, hfz, hnd⟩ := hW
  have hA : DataW.TrodAll enc Tryd.prog W 0 (fun _ => true) true Tryd.f11.params.toList args.toList ds p := hA0
  rw [Tryd.params11] at hA hval
  obtain ⟨v0, vs0, d0, ds0, p0, q0, hargs, rfl, rfl, h0, r0⟩ := trodAll_cons hA
  obtain ⟨v1, vs1, d1, ds1, p1, q1, rfl, rfl, rfl, h1, r1⟩ := trodAll_cons r0
  obtain ⟨v2, vs2, d2, ds2, p2, q2, rfl, rfl, rfl, h2, r2⟩ := trodAll_cons r1
  obtain ⟨rfl, rfl, rfl⟩ := trodAll_nil r2
  obtain rfl : args = #[v0, v1, v2] := by cases args; simp_all
  obtain ⟨rfl, rfl⟩ := trodVars_none hV
  have hz0 : Sized Tryd.prog 66 d0 := Sized.each hsz0 (j := 0) rfl rfl
  have hz1 : Sized Tryd.prog 63 d1 := Sized.each hsz0 (j := 1) rfl rfl
  have hz2 : Sized Tryd.prog 5 d2 := Sized.each hsz0 (j := 2) rfl rfl
  have k0 := h0
  have lt0 : ∀ x ∈ p0, x.block < W.heap.size := by obtain ⟨m, hm⟩ := k0; exact DataW.trod_lt m _ _ _ hm
  obtain ⟨y0, cs0, rfl, hk0, w0⟩ := rdRoot.agg Tryd.underlying66 (hval 0 66 v0 rfl rfl) h0 hz0
  obtain ⟨cl0, rfl⟩ : ∃ l : List Value, cs0 = l.toArray := ⟨cs0.toList, by simp⟩
  simp only [List.toList_toArray] at hk0
  obtain rfl := kRoot_open hk0
  have k1 := h1
  have lt1 : ∀ x ∈ p1, x.block < W.heap.size := by obtain ⟨m, hm⟩ := k1; exact DataW.trod_lt m _ _ _ hm
  obtain ⟨y1, cs1, rfl, hk1, w1⟩ := rdEntry.agg Tryd.underlying63 (hval 1 63 v1 rfl rfl) h1 hz1
  obtain ⟨cl1, rfl⟩ : ∃ l : List Value, cs1 = l.toArray := ⟨cs1.toList, by simp⟩
  simp only [List.toList_toArray] at hk1
  obtain ⟨A1_6, c1_6, rfl, l1_6, g1_6⟩ := kEntry_open hk1
  have k2 := h2
  have lt2 : ∀ x ∈ p2, x.block < W.heap.size := by obtain ⟨m, hm⟩ := k2; exact DataW.trod_lt m _ _ _ hm
  obtain ⟨y2, rfl, rfl, rfl, w2⟩ := open_int Tryd.underlying5 (hval 2 5 v2 rfl rfl) h2
  clear hA0 hval0 hsz0
  have h := pure_VerifyHigh y0 y1 y2 w0 w1 w2
  refine (paymasterlaw17_VerifyHigh.calls y0.f0 y0.f1.f0 y0.f1.f1 y0.f2 y1.f0.f0 y1.f0.f1 y1.f0.f2 y1.f0.f3.f0 y1.f0.f3.f1 y1.f1.f0 _ _ y1.f1.f1 y2 true W (P.laidT_of_met hL) g1_6 l1_6 h).mono fun e W' ⟨he, bel0⟩ => ?_
  have bel := bel0
  subst he
  exact ⟨_, rfl, _, _, _, [], _, [], hW', trodAll_mk1 (shut_bool Tryd.underlying4 _), (trodAll_cons_mk (Below.trod laidOut (by kernel_rfl) (of_decide_eq_true (by kernel_rfl)) k0 bel lt0) (trodAll_cons_mk (Below.trod laidOut (by kernel_rfl) (of_decide_eq_true (by kernel_rfl)) k1 bel lt1) (trodAll_cons_mk (Below.trod laidOut (by kernel_rfl) (of_decide_eq_true (by kernel_rfl)) k2 bel lt2) trodAll_mk0))), rfl, bel.frame _, fun h => by cases h⟩
theorem over : Rows.verifyHighRow.holds Tryd.pinned (OpenSpec.ofChange Rows.verifyHighSpec) :=
  OpenClaim.holds_of_wide 11 Tryd.f11 rfl rfl rfl rfl rfl rfl rfl ⟨rfl, rfl, rfl, rfl, rfl⟩ rfl rfl rfl rfl rfl (by kernel_rfl) Tryd.func11 (by kernel_rfl)
    (of_decide_eq_true (by kernel_rfl)) (by unfold Func.isWrapper; first | (rw [if_pos (by decide +kernel)]; kernel_rfl) | (rw [if_neg (by decide +kernel)]; exact ⟨rfl, rfl⟩))
    (fun os started H enc _ => lifted os started H enc)
set_option maxRecDepth 100000 in
theorem proved : Rows.VerifyHighCardSaid :=
  Claim7.holds_tied_plain_at .later [] [.data, .data, .pinned] true (true, "0d271f63775fa93c7fbc120e8a201296a9c53b9baf3890b1618e34c65d58a738") true
    over (fun _ h => by cases h) (by kernel_rfl) (fun _ h => by cases h) verifyHigh_row_tie rfl ⟨rfl, rfl⟩ (by kernel_rfl) rfl
    (fun f fn hf hfn => by
      obtain rfl : f = 11 := Option.some.inj ((show Tryd.prog.funcNamed "paymaster/paymasterlaw17.VerifyHigh" = some 11 by kernel_rfl).symm.trans hf) |>.symm
      obtain rfl : fn = Tryd.f11 := (Option.some.inj (Tryd.func11.symm.trans hfn)).symm
      exact ⟨by kernel_rfl, fun j t ht => by
        rw [Tryd.params11] at ht
        have h3 : t ∈ [66, 63, 5] := by
          have := List.mem_of_getElem? (l := [66, 63, 5]) (i := j) (a := t) (by simpa using ht)
          exact this
        simp only [List.mem_cons, List.not_mem_nil, or_false] at h3
        rcases h3 with rfl | rfl | rfl
        · exact (show Tryd.prog.wantsStandIn 66 = false by kernel_rfl)
        · exact (show Tryd.prog.wantsStandIn 63 = false by kernel_rfl)
        · exact (show Tryd.prog.wantsStandIn 5 = false by kernel_rfl)
      ⟩)
    (by kernel_rfl)
#print axioms proved
end Go.Proofs.YtlmmpncdemblbaaDoor.verifyHigh
namespace Go.Proofs.YtlmmpncdemblbaaDoor
/-- The row, under a short name, for the claim. -/
theorem verifyHigh_holds : Rows.VerifyHighCardSaid := verifyHigh.proved
end Go.Proofs.YtlmmpncdemblbaaDoor
