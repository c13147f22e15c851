-- Several texts of this workplace as one.
import Derived.Test.YtijfifphcchbbaaDoorZTraceCuts1
import Derived.Test.YtijfifphcchbbaaDoorProg
import Derived.Deep.OwnRows
import Derived.Laws.Rows
import Derived.Test.YtijfifphcchbbaaDoorRows
import Derived.Test.YtijfifphcchbbaaDoorCards
import Derived.Test.YtijfifphcchbbaaDoorTie
namespace Go.Proofs.YtijfifphcchbbaaDoor.P
open Go.RowKit Go.Proofs.YtijfifphcchbbaaDoorW.PrintWords Go.Proofs.YtijfifphcchbbaaDoorW.PrintLast Go.Proofs.YtijfifphcchbbaaDoorW.PrintMore
attribute [local go_sem] max2_int min2_int max_two min_two max_three min_three max_four min_four-- for this text's walks alone
set_option linter.unusedVariables false
set_option linter.unusedSimpArgs false
def paymasterref01_Add.l0 : Nat → List Int → List Int → Int → List Int → Int → Option (Int × Int × Int)
 | 0, _, _, _, _, _ => none
 | k + 1, x6, x7, x8, x9, x10 => if x10 < 8 then (if 0 ≤ x10 then (if x10 < (x6.length : Int) then (if x10 < (x7.length : Int) then (if x9.length < 17592186044416 then (paymasterref01_Add.l0 k x6 x7 (IntKind.u64.wrap (Int.tdiv (IntKind.u64.wrap ((IntKind.u64.wrap ((rd x6 x10) + (rd x7 x10))) + x8)) 65536)) (x9 ++ [Int.tmod (IntKind.u64.wrap ((IntKind.u64.wrap ((rd x6 x10) + (rd x7 x10))) + x8)) 65536]) (wrap64 (x10 + 1))) else (none)) else (none)) else (none)) else (none)) else (if x9.length < 17592186044416 then ((paymasterref01_number.f k (x9 ++ [x8])).bind fun bt136 => (if bt136.2.2 = true then (some (bt136.1, bt136.2.1, 0)) else (some (0, 0, 10)))) else (none))
def paymasterref01_Add.f (k : Nat) (a0_0 : Int) (a0_1 : Int) (a1_0 : Int) (a1_1 : Int) : Option (Int × Int × Int) := (paymasterref01_digits.f k a0_0 a0_1).bind fun t122 => ((paymasterref01_digits.f k a1_0 a1_1).bind fun t125 => (paymasterref01_Add.l0 k t122 t125 0 ([] : List Int) 0))
def paymasterref01_Add.T7 : Bool × List (List Nat × List Nat) := (true, [([], []), ([], []), ([0, 1], [0, 1]), ([2], [2]), ([], []), ([], []), ([4, 5], [4, 5]), ([6], [6]), ([3, 7], [3, 7]), ([], []), ([8, 9], [8, 9]), ([10, 0, 1, 2, 3, 4, 5, 6, 7, 8, 9, 10], [10])])
def paymasterref01_Add.B7 : List Nat := [0, 0, 3, 7, 0, 0, 48, 112, 255, 0, 1023, 2047]
theorem paymasterref01_Add.tab7 : rtab .any (opsOf Tryd.f68 7) = paymasterref01_Add.T7 := by kernel_rfl
theorem paymasterref01_Add.bits7 : waitsOk paymasterref01_Add.T7.2 paymasterref01_Add.B7 = true := by kernel_rfl
set_option maxHeartbeats 8000000 in
set_option maxRecDepth 100000 in
theorem paymasterref01_Add.calls (k : Nat) (a0_0 : Int) (a0_1 : Int) (a1_0 : Int) (a1_1 : Int) (r1 : Int) (r2 : Int) (r3 : Int) (w : World) (h : paymasterref01_Add.f k a0_0 a0_1 a1_0 a1_1 = some (r1, r2, r3)) :
  Calls Tryd.prog 68 #[.agg #[.int .u64 a0_0, .int .u64 a0_1], .agg #[.int .u64 a1_0, .int .u64 a1_1]] w fun e w' => e = .returned (.tuple #[.agg #[.int .u64 r1, .int .u64 r2], .int .i64 r3]) ∧ Below w.heap.size w w' := by
 have hu26 := Tryd.underlying26
 have HB := aM' (Below.refl w.heap.size w)
 have H : ((paymasterref01_digits.f k a0_0 a0_1).bind fun t122 => ((paymasterref01_digits.f k a1_0 a1_1).bind fun t125 => (paymasterref01_Add.l0 k t122 t125 0 ([] : List Int) 0))) = some (r1, r2, r3) := h
 clear h
 replace H := Option.bind_eq_some_iff.mp H
 obtain ⟨t122, A30, H⟩ := H
 replace H : ((paymasterref01_digits.f k a1_0 a1_1).bind fun t125 => (paymasterref01_Add.l0 k t122 t125 0 ([] : List Int) 0)) = some (r1, r2, r3) := H
 have A3 := aM' A30
 clear A30
 replace H := Option.bind_eq_some_iff.mp H
 obtain ⟨t125, A40, H⟩ := H
 replace H : (paymasterref01_Add.l0 k t122 t125 0 ([] : List Int) 0) = some (r1, r2, r3) := H
 have A4 := aM' A40
 clear A40
 have H' := aM' H
 clear H
 go_enter Tryd.func68, Tryd.ntmps68
 try go_wp2_with (first | ((with_reducible refine gate_dst (N := 2) rfl ?_); refine box_event ?hg (N := 2) ?hd (cs := #[.int .u64 a0_0, .int .u64 a0_1]) (t := 26) ?hr ?_; (case hd => rfl); (case hg => rfl); (case hr => first | (go_simp; done) | (go_simp; rfl)); intro gb119 hg w5 hbox hb; have n0_ := aM' (below_step (by repeat (first | (with_reducible first | exact HB.out | apply below_alloc | apply pw_below_drewN | apply below_drew1) | exact HB.out)) hb); have n1_ := aM' (hbox); have n2_ := aM' ((by rw [hg]; exact (below_size (by repeat (first | (with_reducible first | exact HB.out | apply below_alloc | apply pw_below_drewN | apply below_drew1) | exact HB.out))) : w.heap.size ≤ gb119)); have n3_ := aM' ((by rw [hg]; exact (below_size (by repeat (first | (with_reducible first | exact HB.out | apply below_alloc | apply pw_below_drewN | apply below_drew1) | exact HB.out))) : w.heap.size ≤ gb119)); clear HB; have HB := n0_; have BK119 := n1_; have GW119 := n2_; have GE119 := n3_; clear n0_ n1_ n2_ n3_; clear hb hbox hg) | ((with_reducible refine gate_dst (N := 3) rfl ?_); refine box_event ?hg (N := 3) ?hd (cs := #[.int .u64 a1_0, .int .u64 a1_1]) (t := 26) ?hr ?_; (case hd => rfl); (case hg => rfl); (case hr => first | (go_simp; done) | (go_simp; rfl)); intro gb120 hg w6 hbox hb; have n0_ := aM' (blk_below (g := gb119) (o := .cells #[.int .u64 a0_0, .int .u64 a0_1] 26 (0, 0)) (by (with_reducible repeat (first | refine blk_drewN ?_ _ | refine blk_drew ?_ | refine blk_alloc ?_ _)); exact BK119.out) hb); have n1_ := aM' (below_step (by repeat (first | (with_reducible first | exact HB.out | apply below_alloc | apply pw_below_drewN | apply below_drew1 | refine below_set ?_ GE119.out) | exact HB.out)) hb); have n2_ := aM' (hbox); have n3_ := aM' ((by rw [hg]; exact (below_size (by repeat (first | (with_reducible first | exact HB.out | apply below_alloc | apply pw_below_drewN | apply below_drew1 | refine below_set ?_ GE119.out) | exact HB.out))) : w.heap.size ≤ gb120)); have n4_ := aM' ((by rw [hg]; exact (below_size (by repeat (first | (with_reducible first | exact HB.out | apply below_alloc | apply pw_below_drewN | apply below_drew1 | refine below_set ?_ GE119.out) | exact HB.out))) : w.heap.size ≤ gb120)); have n5_ := aM' ((by rw [hg]; exact Nat.ne_of_lt (blk_lt (g := gb119) (o := .cells #[.int .u64 a0_0, .int .u64 a0_1] 26 (0, 0)) (by (with_reducible repeat (first | refine blk_drewN ?_ _ | refine blk_drew ?_ | refine blk_alloc ?_ _)); exact BK119.out)) : gb119 ≠ gb120)); have n6_ := aM' ((by rw [hg]; exact Nat.ne_of_gt (blk_lt (g := gb119) (o := .cells #[.int .u64 a0_0, .int .u64 a0_1] 26 (0, 0)) (by (with_reducible repeat (first | refine blk_drewN ?_ _ | refine blk_drew ?_ | refine blk_alloc ?_ _)); exact BK119.out)) : gb120 ≠ gb119)); clear BK119; clear HB; have BK119 := n0_; have HB := n1_; have BK120 := n2_; have GW120 := n3_; have GE120 := n4_; have NB119_120 := n5_; have NB120_119 := n6_; clear n0_ n1_ n2_ n3_ n4_ n5_ n6_; clear hb hbox hg) | ((with_reducible refine gate_dst (N := 4) rfl ?_); refine box_event ?hg (N := 4) ?hd (cs := #[.int .u64 0, .int .u64 0]) (t := 26) ?hr ?_; (case hd => rfl); (case hg => rfl); (case hr => first | (go_simp; done) | (go_simp; rfl)); intro gb121 hg w7 hbox hb; have n0_ := aM' (blk_below (g := gb119) (o := .cells #[.int .u64 a0_0, .int .u64 a0_1] 26 (0, 0)) (by (with_reducible repeat (first | refine blk_drewN ?_ _ | refine blk_drew ?_ | refine blk_alloc ?_ _)); exact BK119.out) hb); have n1_ := aM' (blk_below (g := gb120) (o := .cells #[.int .u64 a1_0, .int .u64 a1_1] 26 (0, 0)) (by (with_reducible repeat (first | refine blk_drewN ?_ _ | refine blk_drew ?_ | refine blk_alloc ?_ _)); exact BK120.out) hb); have n2_ := aM' (below_step (by repeat (first | (with_reducible first | exact HB.out | apply below_alloc | apply pw_below_drewN | apply below_drew1 | refine below_set ?_ GE119.out | refine below_set ?_ GE120.out) | exact HB.out)) hb); have n3_ := aM' (hbox); have n4_ := aM' ((by rw [hg]; exact (below_size (by repeat (first | (with_reducible first | exact HB.out | apply below_alloc | apply pw_below_drewN | apply below_drew1 | refine below_set ?_ GE119.out | refine below_set ?_ GE120.out) | exact HB.out))) : w.heap.size ≤ gb121)); have n5_ := aM' ((by rw [hg]; exact (below_size (by repeat (first | (with_reducible first | exact HB.out | apply below_alloc | apply pw_below_drewN | apply below_drew1 | refine below_set ?_ GE119.out | refine below_set ?_ GE120.out) | exact HB.out))) : w.heap.size ≤ gb121)); have n6_ := aM' ((by rw [hg]; exact Nat.ne_of_lt (blk_lt (g := gb119) (o := .cells #[.int .u64 a0_0, .int .u64 a0_1] 26 (0, 0)) (by (with_reducible repeat (first | refine blk_drewN ?_ _ | refine blk_drew ?_ | refine blk_alloc ?_ _)); exact BK119.out)) : gb119 ≠ gb121)); have n7_ := aM' ((by rw [hg]; exact Nat.ne_of_gt (blk_lt (g := gb119) (o := .cells #[.int .u64 a0_0, .int .u64 a0_1] 26 (0, 0)) (by (with_reducible repeat (first | refine blk_drewN ?_ _ | refine blk_drew ?_ | refine blk_alloc ?_ _)); exact BK119.out)) : gb121 ≠ gb119)); have n8_ := aM' ((by rw [hg]; exact Nat.ne_of_lt (blk_lt (g := gb120) (o := .cells #[.int .u64 a1_0, .int .u64 a1_1] 26 (0, 0)) (by (with_reducible repeat (first | refine blk_drewN ?_ _ | refine blk_drew ?_ | refine blk_alloc ?_ _)); exact BK120.out)) : gb120 ≠ gb121)); have n9_ := aM' ((by rw [hg]; exact Nat.ne_of_gt (blk_lt (g := gb120) (o := .cells #[.int .u64 a1_0, .int .u64 a1_1] 26 (0, 0)) (by (with_reducible repeat (first | refine blk_drewN ?_ _ | refine blk_drew ?_ | refine blk_alloc ?_ _)); exact BK120.out)) : gb121 ≠ gb120)); clear BK119; clear BK120; clear HB; have BK119 := n0_; have BK120 := n1_; have HB := n2_; have BK121 := n3_; have GW121 := n4_; have GE121 := n5_; have NB119_121 := n6_; have NB121_119 := n7_; have NB120_121 := n8_; have NB121_120 := n9_; clear n0_ n1_ n2_ n3_ n4_ n5_ n6_ n7_ n8_ n9_; clear hb hbox hg))
 have n0_ := aM' (blk_drew BK119.out)
 have n1_ := aM' (blk_drew BK120.out)
 have n2_ := aM' (blk_drew BK121.out)
 have n3_ := aM' (below_drew1 HB.out)
 clear BK119
 clear BK120
 clear BK121
 clear HB
 have BK119 := n0_
 have BK120 := n1_
 have BK121 := n2_
 have HB := n3_
 clear n0_ n1_ n2_ n3_
 refine start_ (n := 6) (S := fun w' => w'.cell? ⟨gb119, 0, none⟩ = some (.int .u64 a0_0) ∧ w'.cell? ⟨gb119, 1, none⟩ = some (.int .u64 a0_1) ∧ w'.cell? ⟨gb120, 0, none⟩ = some (.int .u64 a1_0) ∧ w'.cell? ⟨gb120, 1, none⟩ = some (.int .u64 a1_1)) (ds := []) #[false, false, false, false, false, false] (by kernel_rfl) rfl rfl ⟨(blk_cell BK119.out 0).trans rfl, (blk_cell BK119.out 1).trans rfl, (blk_cell BK120.out 0).trans rfl, (blk_cell BK120.out 1).trans rfl⟩ (fun hHeld => ?_)
 generalize w7.drew = w8 at BK119 BK120 BK121 HB hHeld ⊢
 refine take_ (i := 0) (N := some 14) (v := ?_) (a' := ?_) #[true, false, false, false, false, false] rfl rfl (by kernel_rfl) (fun _ _ _ h => h) (Or.inl ⟨by rfl, ?_⟩) hHeld ?_ ?_
 rotate_left
 ·
  rintro w' ⟨s0, s1, s2, s3⟩
  go_simp
  with_reducible rfl
 rotate_left
 ·
  simp only [Act.put, List.setIfInBounds_toArray, List.set_cons_zero, List.set_cons_succ, i64_w, i32_w]
  rfl
 refine take_ (i := 2) (N := some 16) (v := ?_) (a' := ?_) #[true, false, true, false, false, false] rfl rfl (by kernel_rfl) (fun _ _ _ h => h) (Or.inl ⟨by rfl, ?_⟩) hHeld ?_ ?_
 rotate_left
 ·
  rintro w' ⟨s0, s1, s2, s3⟩
  go_simp
  with_reducible rfl
 rotate_left
 ·
  simp only [Act.put, List.setIfInBounds_toArray, List.set_cons_zero, List.set_cons_succ, i64_w, i32_w]
  rfl
 refine one_ (i := 1) (N := some 15) #[true, true, true, false, false, false] rfl rfl (by kernel_rfl) (by decide) (fun K hK => ?_)
 refine goes_ Tryd.func111 (by kernel_rfl) rfl #[.agg #[.int .u64 a0_0, .int .u64 a0_1]] (by rfl) rfl rfl (by (try simp only [List.map_toArray, List.map_cons, List.map_nil]); first | done | rfl | (simp only [List.length_drop, List.length_take]; rfl)) ?_
 with_reducible refine (paymasterref01_digits.calls k a0_0 a0_1 t122 _ A3.out).mono ?_
 rintro e w9 ⟨v123, rfl, ho0, hb⟩
 refine ⟨_, rfl, ?_⟩
 have n0_ := aM' (Kd.R_lower ho0 (below_size (by repeat (first | (with_reducible first | exact HB.out | apply below_alloc | apply pw_below_drewN | apply below_drew1 | refine below_set ?_ GE119.out | refine below_set ?_ GE120.out | refine below_set ?_ GE121.out) | exact HB.out))))
 have n1_ := aM' (blk_below (g := gb119) (o := .cells #[.int .u64 a0_0, .int .u64 a0_1] 26 (0, 0)) (by (with_reducible repeat (first | refine blk_drewN ?_ _ | refine blk_drew ?_ | refine blk_alloc ?_ _)); exact BK119.out) hb)
 have n2_ := aM' (blk_below (g := gb120) (o := .cells #[.int .u64 a1_0, .int .u64 a1_1] 26 (0, 0)) (by (with_reducible repeat (first | refine blk_drewN ?_ _ | refine blk_drew ?_ | refine blk_alloc ?_ _)); exact BK120.out) hb)
 have n3_ := aM' (blk_below (g := gb121) (o := .cells #[.int .u64 0, .int .u64 0] 26 (0, 0)) (by (with_reducible repeat (first | refine blk_drewN ?_ _ | refine blk_drew ?_ | refine blk_alloc ?_ _)); exact BK121.out) hb)
 have n4_ := aM' (below_step (by repeat (first | (with_reducible first | exact HB.out | apply below_alloc | apply pw_below_drewN | apply below_drew1 | refine below_set ?_ GE119.out | refine below_set ?_ GE120.out | refine below_set ?_ GE121.out) | exact HB.out)) hb)
 clear BK119
 clear BK120
 clear BK121
 clear HB
 have HO124 := n0_
 have BK119 := n1_
 have BK120 := n2_
 have BK121 := n3_
 have HB := n4_
 clear n0_ n1_ n2_ n3_ n4_
 (try clear hb)
 (try clear hb2)
 (try clear hk)
 (try clear hi)
 (try clear ho0)
 refine hK.out _ _ ⟨(blk_cell BK119.out 0).trans rfl, (blk_cell BK119.out 1).trans rfl, (blk_cell BK120.out 0).trans rfl, (blk_cell BK120.out 1).trans rfl⟩ (fun hHeld => ?_)
 clear hK K
 refine norm_ (a' := ?_) ?_ ?_
 rotate_left
 ·
  show Act.put _ (some 15) _ = _
  simp only [Act.put, List.setIfInBounds_toArray, List.set_cons_zero, List.set_cons_succ, i64_w, i32_w]
  rfl
 refine one_ (i := 3) (N := some 17) #[true, true, true, true, false, false] rfl rfl (by kernel_rfl) (by decide) (fun K hK => ?_)
 refine goes_ Tryd.func111 (by kernel_rfl) rfl #[.agg #[.int .u64 a1_0, .int .u64 a1_1]] (by rfl) rfl rfl (by (try simp only [List.map_toArray, List.map_cons, List.map_nil]); first | done | rfl | (simp only [List.length_drop, List.length_take]; rfl)) ?_
 with_reducible refine (paymasterref01_digits.calls k a1_0 a1_1 t125 _ A4.out).mono ?_
 rintro e w10 ⟨v126, rfl, ho0, hb⟩
 refine ⟨_, rfl, ?_⟩
 have n0_ := aM' (Kd.R_elder' (by (with_reducible repeat (first | apply Kd.R_alloc | apply Kd.R_drewN | apply Kd.R_drew)); exact HO124.out) (Kd.R_base ho0) hb)
 have n1_ := aM' (Kd.R_lower (Kd.R_new' ho0 (Kd.R_lt (by (with_reducible repeat (first | apply Kd.R_alloc | apply Kd.R_drewN | apply Kd.R_drew)); exact HO124.out))) (below_size (by repeat (first | (with_reducible first | exact HB.out | apply below_alloc | apply pw_below_drewN | apply below_drew1 | refine below_set ?_ GE119.out | refine below_set ?_ GE120.out | refine below_set ?_ GE121.out) | exact HB.out))))
 have n2_ := aM' (blk_below (g := gb119) (o := .cells #[.int .u64 a0_0, .int .u64 a0_1] 26 (0, 0)) (by (with_reducible repeat (first | refine blk_drewN ?_ _ | refine blk_drew ?_ | refine blk_alloc ?_ _)); exact BK119.out) hb)
 have n3_ := aM' (blk_below (g := gb120) (o := .cells #[.int .u64 a1_0, .int .u64 a1_1] 26 (0, 0)) (by (with_reducible repeat (first | refine blk_drewN ?_ _ | refine blk_drew ?_ | refine blk_alloc ?_ _)); exact BK120.out) hb)
 have n4_ := aM' (blk_below (g := gb121) (o := .cells #[.int .u64 0, .int .u64 0] 26 (0, 0)) (by (with_reducible repeat (first | refine blk_drewN ?_ _ | refine blk_drew ?_ | refine blk_alloc ?_ _)); exact BK121.out) hb)
 have n5_ := aM' (below_step (by repeat (first | (with_reducible first | exact HB.out | apply below_alloc | apply pw_below_drewN | apply below_drew1 | refine below_set ?_ GE119.out | refine below_set ?_ GE120.out | refine below_set ?_ GE121.out) | exact HB.out)) hb)
 clear HO124
 clear BK119
 clear BK120
 clear BK121
 clear HB
 have HO124 := n0_
 have HO127 := n1_
 have BK119 := n2_
 have BK120 := n3_
 have BK121 := n4_
 have HB := n5_
 clear n0_ n1_ n2_ n3_ n4_ n5_
 (try clear hb)
 (try clear hb2)
 (try clear hk)
 (try clear hi)
 (try clear ho0)
 refine hK.out _ _ ⟨(blk_cell BK119.out 0).trans rfl, (blk_cell BK119.out 1).trans rfl, (blk_cell BK120.out 0).trans rfl, (blk_cell BK120.out 1).trans rfl⟩ (fun hHeld => ?_)
 clear hK K
 refine norm_ (a' := ?_) ?_ ?_
 rotate_left
 ·
  show Act.put _ (some 17) _ = _
  simp only [Act.put, List.setIfInBounds_toArray, List.set_cons_zero, List.set_cons_succ, i64_w, i32_w]
  rfl
 refine pure_ (i := 4) (N := some 6) (v := ?_) (a' := ?_) #[true, true, true, true, true, false] rfl rfl (by kernel_rfl) (fun _ _ _ h => h) (Or.inl ⟨by rfl, ?_⟩) ?_ ?_
 rotate_left
 ·
  intro w'
  go_simp
  with_reducible rfl
 rotate_left
 ·
  simp only [Act.put, List.setIfInBounds_toArray, List.set_cons_zero, List.set_cons_succ, i64_w, i32_w]
  rfl
 refine pure_ (i := 5) (N := some 7) (v := ?_) (a' := ?_) #[true, true, true, true, true, true] rfl rfl (by kernel_rfl) (fun _ _ _ h => h) (Or.inl ⟨by rfl, ?_⟩) ?_ ?_
 rotate_left
 ·
  intro w'
  go_simp
  with_reducible rfl
 rotate_left
 ·
  simp only [Act.put, List.setIfInBounds_toArray, List.set_cons_zero, List.set_cons_succ, i64_w, i32_w]
  rfl
 refine done_ (by kernel_rfl) ?_
 try go_wp2
 go_loopg [8, 9, 10] k (fun kq v8 v9 v10 w' => ∃ (x8_1 : Int) (x9_1 : List Int) (x10_1 : Int), v8 = .int .u64 x8_1 ∧ v10 = .int .i64 x10_1 ∧ Aside0 (paymasterref01_Add.l0 kq t122 t125 x8_1 x9_1 x10_1 = some (r1, r2, r3)) ∧ Aside0 (kq ≤ k) ∧ Aside0 (Kd.R (Kd.int .u64) 24 w' w.heap.size (fun k_ => some k_ ≠ (v126 : Value).ownBlock ∧ some k_ ≠ (v9 : Value).ownBlock) v123 t122) ∧ Aside0 (Kd.R (Kd.int .u64) 24 w' w.heap.size (fun k_ => some k_ ≠ (v123 : Value).ownBlock ∧ some k_ ≠ (v9 : Value).ownBlock) v126 t125) ∧ Aside0 (Kd.R (Kd.int .u64) 24 w' w.heap.size (fun k_ => some k_ ≠ (v123 : Value).ownBlock ∧ some k_ ≠ (v126 : Value).ownBlock) v9 x9_1) ∧ Aside0 (w'.heap[gb119]? = some (.cells #[.int .u64 a0_0, .int .u64 a0_1] 26 (0, 0))) ∧ Aside0 (w'.heap[gb120]? = some (.cells #[.int .u64 a1_0, .int .u64 a1_1] 26 (0, 0))) ∧ Aside0 (w'.heap[gb121]? = some (.cells #[.int .u64 0, .int .u64 0] 26 (0, 0))) ∧ Aside0 (Below w.heap.size w w'))
 case atStart => exact ⟨(0), (([] : List Int)), (0), (by first | rfl | (simp; done) | (simp [*]; done)), (by first | rfl | (simp; done) | (simp [*]; done)), H', ⟨Nat.le_refl _⟩, ⟨by (with_reducible repeat (first | apply Kd.R_alloc | apply Kd.R_drewN | apply Kd.R_drew)); exact Kd.R_mono HO124.out (fun _ hk => ⟨hk.2, (by simp [Value.ownBlock])⟩)⟩, ⟨by (with_reducible repeat (first | apply Kd.R_alloc | apply Kd.R_drewN | apply Kd.R_drew)); exact Kd.R_mono HO127.out (fun _ hk => ⟨hk.2, (by simp [Value.ownBlock])⟩)⟩, ⟨by first | exact Kd.R_nil _ _ _ _ _ | exact Kd.N_nil _ _ _ _ _ | exact Kd.V_nil _ _ _ _ _ | exact Kd.Q_nil _ _ _ _ _ | exact Kd.S_nil _ _ _ _ _⟩, ⟨by (with_reducible repeat (first | refine blk_drewN ?_ _ | refine blk_drew ?_ | refine blk_alloc ?_ _)); exact BK119.out⟩, ⟨by (with_reducible repeat (first | refine blk_drewN ?_ _ | refine blk_drew ?_ | refine blk_alloc ?_ _)); exact BK120.out⟩, ⟨by (with_reducible repeat (first | refine blk_drewN ?_ _ | refine blk_drew ?_ | refine blk_alloc ?_ _)); exact BK121.out⟩, ⟨by repeat (first | (with_reducible first | exact HB.out | apply below_alloc | apply pw_below_drewN | apply below_drew1 | refine below_set ?_ GE119.out | refine below_set ?_ GE120.out | refine below_set ?_ GE121.out) | exact HB.out)⟩⟩
 case round =>
  clear H'
  try clear c1
  try clear p2
  try clear c6
  obtain ⟨x8_1, x9_1, x10_1, rfl, rfl, HA, HK1, HO_6, HO_7, HO_9, BK119, BK120, BK121, HB⟩ := hrel
  cases gk with
  | zero => exact absurd HA.out (by simp [paymasterref01_Add.l0])
  | succ k1 =>
   have H := HA.out
   clear HA
   simp only [paymasterref01_Add.l0] at H
   by_cases c11 : x10_1 < 8
   ·
    rw [if_pos c11] at H
    have c11b0 : decide (x10_1 < 8) = true := decide_eq_true c11
    clear c11
    by_cases c12 : 0 ≤ x10_1
    ·
     rw [if_pos c12] at H
     have c12b0 : decide (0 ≤ x10_1) = true := decide_eq_true c12
     clear c12
     by_cases c13 : x10_1 < (t122.length : Int)
     ·
      rw [if_pos c13] at H
      have c13b0 : decide (x10_1 < (t122.length : Int)) = true := decide_eq_true c13
      clear c13
      by_cases c14 : x10_1 < (t125.length : Int)
      ·
       rw [if_pos c14] at H
       have c14b0 : decide (x10_1 < (t125.length : Int)) = true := decide_eq_true c14
       clear c14
       by_cases c15 : x9_1.length < 17592186044416
       ·
        rw [if_pos c15] at H
        have LMc15 := aM' c15
        clear c15
        obtain ⟨y130, hy130⟩ : ∃ y_ : List Int, y_ = (x9_1 ++ [Int.tmod (IntKind.u64.wrap ((IntKind.u64.wrap ((rd t122 x10_1) + (rd t125 x10_1))) + x8_1)) 65536]) := ⟨_, rfl⟩
        replace H : (paymasterref01_Add.l0 k1 t122 t125 (IntKind.u64.wrap (Int.tdiv (IntKind.u64.wrap ((IntKind.u64.wrap ((rd t122 x10_1) + (rd t125 x10_1))) + x8_1)) 65536)) y130 (wrap64 (x10_1 + 1))) = some (r1, r2, r3) := by first | (rw [hy130]; with_reducible exact H) | (have H2_ := (Option.bind_some _ _).symm.trans H; rw [hy130]; with_reducible exact H2_) | (have H2_ := (Option.bind_some _ _).symm.trans H; with_reducible exact H2_) | with_reducible exact H | (rw [hy130]; exact H) | exact H
        have Ny130 := aM' hy130
        clear hy130
        have H' := aM' H
        clear H
        try go_wp2
        have n0_ := aM' (Kd.R_drew HO_6.out)
        have n1_ := aM' (Kd.R_drew HO_7.out)
        have n2_ := aM' (Kd.R_drew HO_9.out)
        have n3_ := aM' (blk_drew BK119.out)
        have n4_ := aM' (blk_drew BK120.out)
        have n5_ := aM' (blk_drew BK121.out)
        have n6_ := aM' (below_drew1 HB.out)
        clear HO_6
        clear HO_7
        clear HO_9
        clear BK119
        clear BK120
        clear BK121
        clear HB
        have HO_6 := n0_
        have HO_7 := n1_
        have HO_9 := n2_
        have BK119 := n3_
        have BK120 := n4_
        have BK121 := n5_
        have HB := n6_
        clear n0_ n1_ n2_ n3_ n4_ n5_ n6_
        obtain ⟨Ao17, co17, eo17⟩ := Kd.R_slice HO_6.out
        (first | subst eo17 | (injection eo17 with f1_ f2_ f3_; have f4_ := f1_.symm; have f5_ := f3_.symm; clear f1_ f2_ f3_; subst f4_; subst f5_))
        have p128 : 0 ≤ (x10_1 : Int) := of_decide_eq_true (by first | (with_reducible assumption) | assumption)
        have q128 : x10_1 < (t122.length : Int) := of_decide_eq_true (by first | (with_reducible assumption) | assumption)
        obtain ⟨ad128, e128, hx128_0⟩ := Kd.at_int (Kd.R_reads' HO_6.out).2.2 x10_1 p128 q128
        cases e128
        replace p128 := eq_true p128
        replace q128 := eq_true q128
        obtain ⟨Ao18, co18, eo18⟩ := Kd.R_slice HO_7.out
        (first | subst eo18 | (injection eo18 with f1_ f2_ f3_; have f4_ := f1_.symm; have f5_ := f3_.symm; clear f1_ f2_ f3_; subst f4_; subst f5_))
        have p129 : 0 ≤ (x10_1 : Int) := of_decide_eq_true (by first | (with_reducible assumption) | assumption)
        have q129 : x10_1 < (t125.length : Int) := of_decide_eq_true (by first | (with_reducible assumption) | assumption)
        obtain ⟨ad129, e129, hx129_0⟩ := Kd.at_int (Kd.R_reads' HO_7.out).2.2 x10_1 p129 q129
        cases e129
        replace p129 := eq_true p129
        replace q129 := eq_true q129
        refine start_ (n := 12) (S := fun w' => w'.cell? (ad128.add (x10_1).toNat) = some (.int .u64 (rd t122 x10_1)) ∧ w'.cell? (ad129.add (x10_1).toNat) = some (.int .u64 (rd t125 x10_1))) (ds := []) #[false, false, false, false, false, false, false, false, false, false, false, false] (by kernel_rfl) rfl rfl ⟨hx128_0, hx129_0⟩ (fun hHeld => ?_); refine with_tabW paymasterref01_Add.tab7 paymasterref01_Add.bits7 (fun HT_ HW_ => ?_)
        generalize wr.drew = w16 at HO_6 HO_7 HO_9 BK119 BK120 BK121 HB hx128_0 hx129_0 hHeld ⊢
        refine pure_ (i := 0) (N := some 22) (v := ?_) (a' := ?_) #[true, false, false, false, false, false, false, false, false, false, false, false] rfl rfl (any_of HT_.out (by kernel_rfl)) (fun _ _ _ h => h) (Or.inl ⟨by rfl, ?_⟩) ?_ ?_
        rotate_left
        ·
         intro w'
         go_simp
         with_reducible rfl
        rotate_left
        ·
         simp only [Act.put, List.setIfInBounds_toArray, List.set_cons_zero, List.set_cons_succ, i64_w, i32_w]
         rfl
        refine pure_ (i := 1) (N := some 23) (v := ?_) (a' := ?_) #[true, true, false, false, false, false, false, false, false, false, false, false] rfl rfl (any_of HT_.out (by kernel_rfl)) (fun _ _ _ h => h) (Or.inl ⟨by rfl, ?_⟩) ?_ ?_
        rotate_left
        ·
         intro w'
         go_simp
         with_reducible rfl
        rotate_left
        ·
         simp only [Act.put, List.setIfInBounds_toArray, List.set_cons_zero, List.set_cons_succ, i64_w, i32_w]
         rfl
        refine pure_ (i := 2) (N := some 24) (v := ?_) (a' := ?_) #[true, true, true, false, false, false, false, false, false, false, false, false] rfl rfl (any_of HT_.out (by kernel_rfl)) (fun _ _ _ h => h) (Or.inl ⟨by rfl, ?_⟩) ?_ ?_
        rotate_left
        ·
         intro w'
         go_simp
         with_reducible rfl
        rotate_left
        ·
         simp only [Act.put, List.setIfInBounds_toArray, List.set_cons_zero, List.set_cons_succ, i64_w, i32_w]
         rfl
        refine pure_ (i := 4) (N := some 26) (v := ?_) (a' := ?_) #[true, true, true, false, true, false, false, false, false, false, false, false] rfl rfl (any_of HT_.out (by kernel_rfl)) (fun _ _ _ h => h) (Or.inl ⟨by rfl, ?_⟩) ?_ ?_
        rotate_left
        ·
         intro w'
         go_simp
         with_reducible rfl
        rotate_left
        ·
         simp only [Act.put, List.setIfInBounds_toArray, List.set_cons_zero, List.set_cons_succ, i64_w, i32_w]
         rfl
        refine pure_ (i := 5) (N := some 27) (v := ?_) (a' := ?_) #[true, true, true, false, true, true, false, false, false, false, false, false] rfl rfl (any_of HT_.out (by kernel_rfl)) (fun _ _ _ h => h) (Or.inl ⟨by rfl, ?_⟩) ?_ ?_
        rotate_left
        ·
         intro w'
         go_simp
         with_reducible rfl
        rotate_left
        ·
         simp only [Act.put, List.setIfInBounds_toArray, List.set_cons_zero, List.set_cons_succ, i64_w, i32_w]
         rfl
        refine pure_ (i := 6) (N := some 28) (v := ?_) (a' := ?_) #[true, true, true, false, true, true, true, false, false, false, false, false] rfl rfl (any_of HT_.out (by kernel_rfl)) (fun _ _ _ h => h) (Or.inl ⟨by rfl, ?_⟩) ?_ ?_
        rotate_left
        ·
         intro w'
         go_simp
         with_reducible rfl
        rotate_left
        ·
         simp only [Act.put, List.setIfInBounds_toArray, List.set_cons_zero, List.set_cons_succ, i64_w, i32_w]
         rfl
        refine pure_ (i := 9) (N := some 31) (v := ?_) (a' := ?_) #[true, true, true, false, true, true, true, false, false, true, false, false] rfl rfl (any_of HT_.out (by kernel_rfl)) (fun _ _ _ h => h) (Or.inl ⟨by rfl, ?_⟩) ?_ ?_
        rotate_left
        ·
         intro w'
         go_simp
         with_reducible rfl
        rotate_left
        ·
         simp only [Act.put, List.setIfInBounds_toArray, List.set_cons_zero, List.set_cons_succ, i64_w, i32_w]
         rfl
        refine take_ (i := 3) (N := some 25) (v := ?_) (a' := ?_) #[true, true, true, true, true, true, true, false, false, true, false, false] rfl rfl (take_ofW HT_.out HW_.out (by kernel_rfl)) (fun _ _ _ h => h) (Or.inl ⟨by rfl, ?_⟩) hHeld ?_ ?_
        rotate_left
        ·
         rintro w' ⟨s0, s1⟩
         go_simp
         with_reducible rfl
        rotate_left
        ·
         simp only [Act.put, List.setIfInBounds_toArray, List.set_cons_zero, List.set_cons_succ, i64_w, i32_w]
         rfl
        refine take_ (i := 7) (N := some 29) (v := ?_) (a' := ?_) #[true, true, true, true, true, true, true, true, false, true, false, false] rfl rfl (take_ofW HT_.out HW_.out (by kernel_rfl)) (fun _ _ _ h => h) (Or.inl ⟨by rfl, ?_⟩) hHeld ?_ ?_
        rotate_left
        ·
         rintro w' ⟨s0, s1⟩
         go_simp
         with_reducible rfl
        rotate_left
        ·
         simp only [Act.put, List.setIfInBounds_toArray, List.set_cons_zero, List.set_cons_succ, i64_w, i32_w]
         rfl
        refine pure_ (i := 8) (N := some 30) (v := ?_) (a' := ?_) #[true, true, true, true, true, true, true, true, true, true, false, false] rfl rfl (any_of HT_.out (by kernel_rfl)) (fun _ _ _ h => h) (Or.inl ⟨by rfl, ?_⟩) ?_ ?_
        rotate_left
        ·
         intro w'
         go_simp
         with_reducible rfl
        rotate_left
        ·
         simp only [Act.put, List.setIfInBounds_toArray, List.set_cons_zero, List.set_cons_succ, i64_w, i32_w]
         rfl
        refine pure_ (i := 10) (N := some 32) (v := ?_) (a' := ?_) #[true, true, true, true, true, true, true, true, true, true, true, false] rfl rfl (any_of HT_.out (by kernel_rfl)) (fun _ _ _ h => h) (Or.inl ⟨by rfl, ?_⟩) ?_ ?_
        rotate_left
        ·
         intro w'
         go_simp
         with_reducible rfl
        rotate_left
        ·
         simp only [Act.put, List.setIfInBounds_toArray, List.set_cons_zero, List.set_cons_succ, i64_w, i32_w]
         rfl
        refine pure_ (i := 11) (N := some 11) (v := ?_) (a' := ?_) #[true, true, true, true, true, true, true, true, true, true, true, true] rfl rfl (any_of HT_.out (by kernel_rfl)) (fun _ _ _ h => h) (Or.inl ⟨by rfl, ?_⟩) ?_ ?_
        rotate_left
        ·
         intro w'
         go_simp
         with_reducible rfl
        rotate_left
        ·
         simp only [Act.put, List.setIfInBounds_toArray, List.set_cons_zero, List.set_cons_succ, i64_w, i32_w]
         rfl
        refine done_ (done_of HT_.out (by kernel_rfl)) ?_
        try go_wp2_with (first | ((with_reducible refine gate_builtin (b := .append) (xs := #[.tmp 33, .tmp 36]) rfl ?_); at_builtin; refine Kd.R_append (Kd.int .u64) (w0 := w) w.heap.size rfl (.tmp 33) (.tmp 36) 170 24 (.int .u64 0) 8 rfl Tryd.underlying170 info24 rfl (by decide) (by omega) u9 x9_1 (Int.tmod (IntKind.u64.wrap ((IntKind.u64.wrap ((rd t122 x10_1) + (rd t125 x10_1))) + x8_1)) 65536) [.int .u64 (Int.tmod (IntKind.u64.wrap ((IntKind.u64.wrap ((rd t122 x10_1) + (rd t125 x10_1))) + x8_1)) 65536)] (fun k_ => some k_ ≠ (.slice (some ad128) t122.length co17 : Value).ownBlock ∧ some k_ ≠ (.slice (some ad129) t125.length co18 : Value).ownBlock) (fun _ => False) rfl rfl ?aP (fun _ hk => hk.elim) ?aF ?aO ?aB ?aS ?aL ?_; (case aP => exact rfl); (case aB => exact (by repeat (first | (with_reducible first | exact HB.out | apply below_alloc | apply pw_below_drewN | apply below_drew1 | refine below_set ?_ GE119.out | refine below_set ?_ GE120.out | refine below_set ?_ GE121.out) | exact HB.out))); (case aF => exact (fun k_ hk => ⟨Kd.fresh' (Kd.R_lt (by (with_reducible repeat (first | apply Kd.R_alloc | apply Kd.R_drewN | apply Kd.R_drew)); exact HO_6.out)) k_ hk, Kd.fresh' (Kd.R_lt (by (with_reducible repeat (first | apply Kd.R_alloc | apply Kd.R_drewN | apply Kd.R_drew)); exact HO_7.out)) k_ hk⟩)); (case aO => exact (by (with_reducible repeat (first | apply Kd.R_alloc | apply Kd.R_drewN | apply Kd.R_drew)); exact HO_9.out)); (case aS => exact (below_size (by repeat (first | (with_reducible first | exact HB.out | apply below_alloc | apply pw_below_drewN | apply below_drew1 | refine below_set ?_ GE119.out | refine below_set ?_ GE120.out | refine below_set ?_ GE121.out) | exact HB.out)))); (case aL => have := LMc15.out; omega); intro v131 w19 ho hb hg hat; rw [← Ny130.out] at ho; have n0_ := aM' (Kd.R_after (ok := (fun k_ => some k_ ≠ (.slice (some ad129) t125.length co18 : Value).ownBlock)) (by (with_reducible repeat (first | apply Kd.R_alloc | apply Kd.R_drewN | apply Kd.R_drew)); exact HO_6.out) hg hat); have n1_ := aM' (Kd.R_after (ok := (fun k_ => some k_ ≠ (.slice (some ad128) t122.length co17 : Value).ownBlock)) (by (with_reducible repeat (first | apply Kd.R_alloc | apply Kd.R_drewN | apply Kd.R_drew)); exact HO_7.out) hg hat); have n2_ := aM' (blk_grown (g := gb119) (o := .cells #[.int .u64 a0_0, .int .u64 a0_1] 26 (0, 0)) (by (with_reducible repeat (first | refine blk_drewN ?_ _ | refine blk_drew ?_ | refine blk_alloc ?_ _)); exact BK119.out) hg (Kd.R_ne HO_9.out BK119.out (by decide))); have n3_ := aM' (blk_grown (g := gb120) (o := .cells #[.int .u64 a1_0, .int .u64 a1_1] 26 (0, 0)) (by (with_reducible repeat (first | refine blk_drewN ?_ _ | refine blk_drew ?_ | refine blk_alloc ?_ _)); exact BK120.out) hg (Kd.R_ne HO_9.out BK120.out (by decide))); have n4_ := aM' (blk_grown (g := gb121) (o := .cells #[.int .u64 0, .int .u64 0] 26 (0, 0)) (by (with_reducible repeat (first | refine blk_drewN ?_ _ | refine blk_drew ?_ | refine blk_alloc ?_ _)); exact BK121.out) hg (Kd.R_ne HO_9.out BK121.out (by decide))); have n5_ := aM' (hb); have n6_ := aM' (ho); clear HO_6; clear HO_7; clear BK119; clear BK120; clear BK121; clear HB; clear HO_9; have HO_6 := n0_; have HO_7 := n1_; have BK119 := n2_; have BK120 := n3_; have BK121 := n4_; have HB := n5_; have HO132 := n6_; clear n0_ n1_ n2_ n3_ n4_ n5_ n6_; clear ho hb hg hat))
        go_roundg k1
        case measure => have := HK1.out; omega
        case rel => exact ⟨(IntKind.u64.wrap (Int.tdiv (IntKind.u64.wrap ((IntKind.u64.wrap ((rd t122 x10_1) + (rd t125 x10_1))) + x8_1)) 65536)), (y130), (wrap64 (x10_1 + 1)), (by first | rfl | (simp; done) | (simp [*]; done)), (by first | rfl | (simp; done) | (simp [*]; done)), H', ⟨by have := HK1.out; omega⟩, ⟨by (with_reducible repeat (first | apply Kd.R_alloc | apply Kd.R_drewN | apply Kd.R_drew)); exact HO_6.out⟩, ⟨by (with_reducible repeat (first | apply Kd.R_alloc | apply Kd.R_drewN | apply Kd.R_drew)); exact HO_7.out⟩, ⟨by (with_reducible repeat (first | apply Kd.R_alloc | apply Kd.R_drewN | apply Kd.R_drew)); exact HO132.out⟩, ⟨by (with_reducible repeat (first | refine blk_drewN ?_ _ | refine blk_drew ?_ | refine blk_alloc ?_ _)); exact BK119.out⟩, ⟨by (with_reducible repeat (first | refine blk_drewN ?_ _ | refine blk_drew ?_ | refine blk_alloc ?_ _)); exact BK120.out⟩, ⟨by (with_reducible repeat (first | refine blk_drewN ?_ _ | refine blk_drew ?_ | refine blk_alloc ?_ _)); exact BK121.out⟩, ⟨by repeat (first | (with_reducible first | exact HB.out | apply below_alloc | apply pw_below_drewN | apply below_drew1 | refine below_set ?_ GE119.out | refine below_set ?_ GE120.out | refine below_set ?_ GE121.out) | exact HB.out)⟩⟩
       ·
        rw [if_neg c15] at H
        exact absurd H (by simp)
      ·
       rw [if_neg c14] at H
       exact absurd H (by simp)
     ·
      rw [if_neg c13] at H
      exact absurd H (by simp)
    ·
     rw [if_neg c12] at H
     exact absurd H (by simp)
   ·
    rw [if_neg c11] at H
    have c11b0 : decide (x10_1 < 8) = false := decide_eq_false c11
    clear c11
    by_cases c20 : x9_1.length < 17592186044416
    ·
     rw [if_pos c20] at H
     have LMc20 := aM' c20
     clear c20
     obtain ⟨y133, hy133⟩ : ∃ y_ : List Int, y_ = (x9_1 ++ [x8_1]) := ⟨_, rfl⟩
     replace H : ((paymasterref01_number.f k1 y133).bind fun bt136 => (if bt136.2.2 = true then (some (bt136.1, bt136.2.1, 0)) else (some (0, 0, 10)))) = some (r1, r2, r3) := by first | (rw [hy133]; with_reducible exact H) | (have H2_ := (Option.bind_some _ _).symm.trans H; rw [hy133]; with_reducible exact H2_) | (have H2_ := (Option.bind_some _ _).symm.trans H; with_reducible exact H2_) | with_reducible exact H | (rw [hy133]; exact H) | exact H
     have Ny133 := aM' hy133
     clear hy133
     replace H := Option.bind_eq_some_iff.mp H
     obtain ⟨⟨t136, t137, t138⟩, A210, H⟩ := H
     replace H : (if t138 = true then (some (t136, t137, 0)) else (some (0, 0, 10))) = some (r1, r2, r3) := H
     have A21 := aM' A210
     clear A210
     by_cases c22 : t138 = true
     ·
      subst c22
      have H1 : (some (t136, t137, 0)) = some (r1, r2, r3) := by rw [if_pos rfl] at H; exact H
      clear H
      have H := H1
      clear H1
      simp only [Option.some.injEq, Prod.mk.injEq] at H
      obtain ⟨rfl, rfl, rfl⟩ := H
      go_wp2_with (first | ((with_reducible refine gate_builtin (b := .append) (xs := #[.tmp 41, .tmp 43]) rfl ?_); at_builtin; refine Kd.R_append (Kd.int .u64) (w0 := w) w.heap.size rfl (.tmp 41) (.tmp 43) 170 24 (.int .u64 0) 8 rfl Tryd.underlying170 info24 rfl (by decide) (by omega) u9 x9_1 x8_1 [.int .u64 x8_1] (fun k_ => some k_ ≠ (v123 : Value).ownBlock ∧ some k_ ≠ (v126 : Value).ownBlock) (fun _ => False) rfl rfl ?aP (fun _ hk => hk.elim) ?aF ?aO ?aB ?aS ?aL ?_; (case aP => exact rfl); (case aB => exact (by repeat (first | (with_reducible first | exact HB.out | apply below_alloc | apply pw_below_drewN | apply below_drew1 | refine below_set ?_ GE119.out | refine below_set ?_ GE120.out | refine below_set ?_ GE121.out) | exact HB.out))); (case aF => exact (fun k_ hk => ⟨Kd.fresh' (Kd.R_lt (by (with_reducible repeat (first | apply Kd.R_alloc | apply Kd.R_drewN | apply Kd.R_drew)); exact HO_6.out)) k_ hk, Kd.fresh' (Kd.R_lt (by (with_reducible repeat (first | apply Kd.R_alloc | apply Kd.R_drewN | apply Kd.R_drew)); exact HO_7.out)) k_ hk⟩)); (case aO => exact (by (with_reducible repeat (first | apply Kd.R_alloc | apply Kd.R_drewN | apply Kd.R_drew)); exact HO_9.out)); (case aS => exact (below_size (by repeat (first | (with_reducible first | exact HB.out | apply below_alloc | apply pw_below_drewN | apply below_drew1 | refine below_set ?_ GE119.out | refine below_set ?_ GE120.out | refine below_set ?_ GE121.out) | exact HB.out)))); (case aL => have := LMc20.out; omega); intro v134 w23 ho hb hg hat; rw [← Ny133.out] at ho; have n0_ := aM' (Kd.R_after (ok := (fun k_ => some k_ ≠ (v126 : Value).ownBlock)) (by (with_reducible repeat (first | apply Kd.R_alloc | apply Kd.R_drewN | apply Kd.R_drew)); exact HO_6.out) hg hat); have n1_ := aM' (Kd.R_after (ok := (fun k_ => some k_ ≠ (v123 : Value).ownBlock)) (by (with_reducible repeat (first | apply Kd.R_alloc | apply Kd.R_drewN | apply Kd.R_drew)); exact HO_7.out) hg hat); have n2_ := aM' (blk_grown (g := gb119) (o := .cells #[.int .u64 a0_0, .int .u64 a0_1] 26 (0, 0)) (by (with_reducible repeat (first | refine blk_drewN ?_ _ | refine blk_drew ?_ | refine blk_alloc ?_ _)); exact BK119.out) hg (Kd.R_ne HO_9.out BK119.out (by decide))); have n3_ := aM' (blk_grown (g := gb120) (o := .cells #[.int .u64 a1_0, .int .u64 a1_1] 26 (0, 0)) (by (with_reducible repeat (first | refine blk_drewN ?_ _ | refine blk_drew ?_ | refine blk_alloc ?_ _)); exact BK120.out) hg (Kd.R_ne HO_9.out BK120.out (by decide))); have n4_ := aM' (blk_grown (g := gb121) (o := .cells #[.int .u64 0, .int .u64 0] 26 (0, 0)) (by (with_reducible repeat (first | refine blk_drewN ?_ _ | refine blk_drew ?_ | refine blk_alloc ?_ _)); exact BK121.out) hg (Kd.R_ne HO_9.out BK121.out (by decide))); have n5_ := aM' (hb); have n6_ := aM' (ho); clear HO_6; clear HO_7; clear BK119; clear BK120; clear BK121; clear HB; clear HO_9; have HO_6 := n0_; have HO_7 := n1_; have BK119 := n2_; have BK120 := n3_; have BK121 := n4_; have HB := n5_; have HO135 := n6_; clear n0_ n1_ n2_ n3_ n4_ n5_ n6_; clear ho hb hg hat; obtain ⟨Ao24, co24, eo24⟩ := Kd.R_slice HO135.out; subst eo24) | ((with_reducible refine gate_callee (f := 112) rfl ?_); refine goesL_ (some 45) rfl rfl Tryd.func112 (by kernel_rfl) rfl #[.slice Ao24 y133.length co24] rfl (by (try simp only [List.map_toArray, List.map_cons, List.map_nil]); first | done | rfl | (simp only [List.length_drop, List.length_take]; rfl)) ?_; (with_reducible refine (paymasterref01_number.calls k1 _ _ y133 t136 t137 true _ ?side1 ?side2 A21.out).mono ?_); (case side1 => repeat (first | exact (Kd.R_reads' HO135.out).2.2 | (with_reducible refine Kd.C_alloc ?_ _) | (with_reducible refine Kd.C_drewN ?_ _) | (with_reducible refine Kd.C_drew ?_))); (case side2 => exact (Kd.R_reads' HO135.out).2.1); rintro e w25 ⟨rfl, hb⟩; refine ⟨_, rfl, ?_⟩; have n0_ := aM' (Kd.R_below (by (with_reducible repeat (first | apply Kd.R_alloc | apply Kd.R_drewN | apply Kd.R_drew)); exact HO_6.out) hb); have n1_ := aM' (Kd.R_below (by (with_reducible repeat (first | apply Kd.R_alloc | apply Kd.R_drewN | apply Kd.R_drew)); exact HO_7.out) hb); have n2_ := aM' (Kd.R_below (by (with_reducible repeat (first | apply Kd.R_alloc | apply Kd.R_drewN | apply Kd.R_drew)); exact HO135.out) hb); have n3_ := aM' (blk_below (g := gb119) (o := .cells #[.int .u64 a0_0, .int .u64 a0_1] 26 (0, 0)) (by (with_reducible repeat (first | refine blk_drewN ?_ _ | refine blk_drew ?_ | refine blk_alloc ?_ _)); exact BK119.out) hb); have n4_ := aM' (blk_below (g := gb120) (o := .cells #[.int .u64 a1_0, .int .u64 a1_1] 26 (0, 0)) (by (with_reducible repeat (first | refine blk_drewN ?_ _ | refine blk_drew ?_ | refine blk_alloc ?_ _)); exact BK120.out) hb); have n5_ := aM' (blk_below (g := gb121) (o := .cells #[.int .u64 0, .int .u64 0] 26 (0, 0)) (by (with_reducible repeat (first | refine blk_drewN ?_ _ | refine blk_drew ?_ | refine blk_alloc ?_ _)); exact BK121.out) hb); have n6_ := aM' (below_step (by repeat (first | (with_reducible first | exact HB.out | apply below_alloc | apply pw_below_drewN | apply below_drew1 | refine below_set ?_ GE119.out | refine below_set ?_ GE120.out | refine below_set ?_ GE121.out) | exact HB.out)) hb); clear HO_6; clear HO_7; clear HO135; clear BK119; clear BK120; clear BK121; clear HB; have HO_6 := n0_; have HO_7 := n1_; have HO135 := n2_; have BK119 := n3_; have BK120 := n4_; have BK121 := n5_; have HB := n6_; clear n0_ n1_ n2_ n3_ n4_ n5_ n6_; (try clear hb); (try clear hb2); (try clear hk); (try clear hi)) | ((with_reducible refine gate_dst (N := 12) rfl ?_); refine box_event ?hg (N := 12) ?hd (cs := #[.int .u64 0, .int .u64 0]) (t := 26) ?hr ?_; (case hd => rfl); (case hg => rfl); (case hr => first | (go_simp; done) | (go_simp; rfl)); intro gb139 hg w26 hbox hb; have n0_ := aM' (Kd.R_below (by (with_reducible repeat (first | apply Kd.R_alloc | apply Kd.R_drewN | apply Kd.R_drew)); exact HO_6.out) hb); have n1_ := aM' (Kd.R_below (by (with_reducible repeat (first | apply Kd.R_alloc | apply Kd.R_drewN | apply Kd.R_drew)); exact HO_7.out) hb); have n2_ := aM' (Kd.R_below (by (with_reducible repeat (first | apply Kd.R_alloc | apply Kd.R_drewN | apply Kd.R_drew)); exact HO135.out) hb); have n3_ := aM' (blk_below (g := gb119) (o := .cells #[.int .u64 a0_0, .int .u64 a0_1] 26 (0, 0)) (by (with_reducible repeat (first | refine blk_drewN ?_ _ | refine blk_drew ?_ | refine blk_alloc ?_ _)); exact BK119.out) hb); have n4_ := aM' (blk_below (g := gb120) (o := .cells #[.int .u64 a1_0, .int .u64 a1_1] 26 (0, 0)) (by (with_reducible repeat (first | refine blk_drewN ?_ _ | refine blk_drew ?_ | refine blk_alloc ?_ _)); exact BK120.out) hb); have n5_ := aM' (blk_below (g := gb121) (o := .cells #[.int .u64 0, .int .u64 0] 26 (0, 0)) (by (with_reducible repeat (first | refine blk_drewN ?_ _ | refine blk_drew ?_ | refine blk_alloc ?_ _)); exact BK121.out) hb); have n6_ := aM' (below_step (by repeat (first | (with_reducible first | exact HB.out | apply below_alloc | apply pw_below_drewN | apply below_drew1 | refine below_set ?_ GE119.out | refine below_set ?_ GE120.out | refine below_set ?_ GE121.out) | exact HB.out)) hb); have n7_ := aM' (hbox); have n8_ := aM' ((by rw [hg]; exact (below_size (by repeat (first | (with_reducible first | exact HB.out | apply below_alloc | apply pw_below_drewN | apply below_drew1 | refine below_set ?_ GE119.out | refine below_set ?_ GE120.out | refine below_set ?_ GE121.out) | exact HB.out))) : w.heap.size ≤ gb139)); have n9_ := aM' ((by rw [hg]; exact (below_size (by repeat (first | (with_reducible first | exact HB.out | apply below_alloc | apply pw_below_drewN | apply below_drew1 | refine below_set ?_ GE119.out | refine below_set ?_ GE120.out | refine below_set ?_ GE121.out) | exact HB.out))) : w.heap.size ≤ gb139)); have n10_ := aM' ((by rw [hg]; exact Nat.ne_of_lt (blk_lt (g := gb119) (o := .cells #[.int .u64 a0_0, .int .u64 a0_1] 26 (0, 0)) (by (with_reducible repeat (first | refine blk_drewN ?_ _ | refine blk_drew ?_ | refine blk_alloc ?_ _)); exact BK119.out)) : gb119 ≠ gb139)); have n11_ := aM' ((by rw [hg]; exact Nat.ne_of_gt (blk_lt (g := gb119) (o := .cells #[.int .u64 a0_0, .int .u64 a0_1] 26 (0, 0)) (by (with_reducible repeat (first | refine blk_drewN ?_ _ | refine blk_drew ?_ | refine blk_alloc ?_ _)); exact BK119.out)) : gb139 ≠ gb119)); have n12_ := aM' ((by rw [hg]; exact Nat.ne_of_lt (blk_lt (g := gb120) (o := .cells #[.int .u64 a1_0, .int .u64 a1_1] 26 (0, 0)) (by (with_reducible repeat (first | refine blk_drewN ?_ _ | refine blk_drew ?_ | refine blk_alloc ?_ _)); exact BK120.out)) : gb120 ≠ gb139)); have n13_ := aM' ((by rw [hg]; exact Nat.ne_of_gt (blk_lt (g := gb120) (o := .cells #[.int .u64 a1_0, .int .u64 a1_1] 26 (0, 0)) (by (with_reducible repeat (first | refine blk_drewN ?_ _ | refine blk_drew ?_ | refine blk_alloc ?_ _)); exact BK120.out)) : gb139 ≠ gb120)); have n14_ := aM' ((by rw [hg]; exact Nat.ne_of_lt (blk_lt (g := gb121) (o := .cells #[.int .u64 0, .int .u64 0] 26 (0, 0)) (by (with_reducible repeat (first | refine blk_drewN ?_ _ | refine blk_drew ?_ | refine blk_alloc ?_ _)); exact BK121.out)) : gb121 ≠ gb139)); have n15_ := aM' ((by rw [hg]; exact Nat.ne_of_gt (blk_lt (g := gb121) (o := .cells #[.int .u64 0, .int .u64 0] 26 (0, 0)) (by (with_reducible repeat (first | refine blk_drewN ?_ _ | refine blk_drew ?_ | refine blk_alloc ?_ _)); exact BK121.out)) : gb139 ≠ gb121)); clear HO_6; clear HO_7; clear HO135; clear BK119; clear BK120; clear BK121; clear HB; have HO_6 := n0_; have HO_7 := n1_; have HO135 := n2_; have BK119 := n3_; have BK120 := n4_; have BK121 := n5_; have HB := n6_; have BK139 := n7_; have GW139 := n8_; have GE139 := n9_; have NB119_139 := n10_; have NB139_119 := n11_; have NB120_139 := n12_; have NB139_120 := n13_; have NB121_139 := n14_; have NB139_121 := n15_; clear n0_ n1_ n2_ n3_ n4_ n5_ n6_ n7_ n8_ n9_ n10_ n11_ n12_ n13_ n14_ n15_; clear hb hbox hg; have hnb27 := NB139_119.out; have hnc27 := NB119_139.out; have hnb28 := NB139_120.out; have hnc28 := NB120_139.out; have hnb29 := NB139_121.out; have hnc29 := NB121_139.out; have hcz30_0 : w26.cell? ⟨gb139, 0, none⟩ = some (.int .u64 0) := (blk_cell BK139.out 0).trans rfl; have hcz30_1 : w26.cell? ⟨gb139, 1, none⟩ = some (.int .u64 0) := (blk_cell BK139.out 1).trans rfl; have hfz30_0 := blk_frozen BK139.out 0; have hfz30_1 := blk_frozen BK139.out 1; have hnb31 := NB121_119.out; have hnc31 := NB119_121.out; have hnb32 := NB121_120.out; have hnc32 := NB120_121.out; have hcz33_0 : w26.cell? ⟨gb121, 0, none⟩ = some (.int .u64 0) := (blk_cell BK121.out 0).trans rfl; have hcz33_1 : w26.cell? ⟨gb121, 1, none⟩ = some (.int .u64 0) := (blk_cell BK121.out 1).trans rfl; have hfz33_0 := blk_frozen BK121.out 0; have hfz33_1 := blk_frozen BK121.out 1))
      refine bodyPost_ret (results_ct rfl _ _ gb121 26 #[.int .u64 t136, .int .u64 t137] (0, 0) _ rfl (by (with_reducible repeat (first | refine blk_drewN ?_ _ | refine blk_drew ?_ | refine blk_alloc ?_ _)); refine blk_put (cs := #[.int .u64 t136, .int .u64 0]) ?_ 1 _ rfl; (with_reducible repeat (first | refine blk_drewN ?_ _ | refine blk_drew ?_ | refine blk_alloc ?_ _)); refine blk_put (cs := #[.int .u64 0, .int .u64 0]) ?_ 0 _ rfl; (with_reducible repeat (first | refine blk_drewN ?_ _ | refine blk_drew ?_ | refine blk_alloc ?_ _)); refine blk_far ?_ NB121_139.out _; (with_reducible repeat (first | refine blk_drewN ?_ _ | refine blk_drew ?_ | refine blk_alloc ?_ _)); refine blk_far ?_ NB121_139.out _; (with_reducible repeat (first | refine blk_drewN ?_ _ | refine blk_drew ?_ | refine blk_alloc ?_ _)); exact BK121.out) Tryd.underlying26 rfl (by kernel_rfl)) rfl ?_
      exact ⟨by first | rfl | (simp [errW_none, errW_some] <;> rfl) | (simp [*, errW_none, errW_some] <;> rfl), by repeat (first | (with_reducible first | exact HB.out | apply below_alloc | apply pw_below_drewN | apply below_drew1 | refine below_set ?_ GE119.out | refine below_set ?_ GE120.out | refine below_set ?_ GE121.out | refine below_set ?_ GE139.out) | exact HB.out)⟩
     ·
      replace c22 := Bool.eq_false_iff.mpr c22
      subst c22
      have H1 : (some (0, 0, 10)) = some (r1, r2, r3) := by rw [if_neg (show ¬ (false = true) by decide)] at H; exact H
      clear H
      have H := H1
      clear H1
      simp only [Option.some.injEq, Prod.mk.injEq] at H
      obtain ⟨rfl, rfl, rfl⟩ := H
      go_wp2_with (first | ((with_reducible refine gate_builtin (b := .append) (xs := #[.tmp 41, .tmp 43]) rfl ?_); at_builtin; refine Kd.R_append (Kd.int .u64) (w0 := w) w.heap.size rfl (.tmp 41) (.tmp 43) 170 24 (.int .u64 0) 8 rfl Tryd.underlying170 info24 rfl (by decide) (by omega) u9 x9_1 x8_1 [.int .u64 x8_1] (fun k_ => some k_ ≠ (v123 : Value).ownBlock ∧ some k_ ≠ (v126 : Value).ownBlock) (fun _ => False) rfl rfl ?aP (fun _ hk => hk.elim) ?aF ?aO ?aB ?aS ?aL ?_; (case aP => exact rfl); (case aB => exact (by repeat (first | (with_reducible first | exact HB.out | apply below_alloc | apply pw_below_drewN | apply below_drew1 | refine below_set ?_ GE119.out | refine below_set ?_ GE120.out | refine below_set ?_ GE121.out) | exact HB.out))); (case aF => exact (fun k_ hk => ⟨Kd.fresh' (Kd.R_lt (by (with_reducible repeat (first | apply Kd.R_alloc | apply Kd.R_drewN | apply Kd.R_drew)); exact HO_6.out)) k_ hk, Kd.fresh' (Kd.R_lt (by (with_reducible repeat (first | apply Kd.R_alloc | apply Kd.R_drewN | apply Kd.R_drew)); exact HO_7.out)) k_ hk⟩)); (case aO => exact (by (with_reducible repeat (first | apply Kd.R_alloc | apply Kd.R_drewN | apply Kd.R_drew)); exact HO_9.out)); (case aS => exact (below_size (by repeat (first | (with_reducible first | exact HB.out | apply below_alloc | apply pw_below_drewN | apply below_drew1 | refine below_set ?_ GE119.out | refine below_set ?_ GE120.out | refine below_set ?_ GE121.out) | exact HB.out)))); (case aL => have := LMc20.out; omega); intro v134 w34 ho hb hg hat; rw [← Ny133.out] at ho; have n0_ := aM' (Kd.R_after (ok := (fun k_ => some k_ ≠ (v126 : Value).ownBlock)) (by (with_reducible repeat (first | apply Kd.R_alloc | apply Kd.R_drewN | apply Kd.R_drew)); exact HO_6.out) hg hat); have n1_ := aM' (Kd.R_after (ok := (fun k_ => some k_ ≠ (v123 : Value).ownBlock)) (by (with_reducible repeat (first | apply Kd.R_alloc | apply Kd.R_drewN | apply Kd.R_drew)); exact HO_7.out) hg hat); have n2_ := aM' (blk_grown (g := gb119) (o := .cells #[.int .u64 a0_0, .int .u64 a0_1] 26 (0, 0)) (by (with_reducible repeat (first | refine blk_drewN ?_ _ | refine blk_drew ?_ | refine blk_alloc ?_ _)); exact BK119.out) hg (Kd.R_ne HO_9.out BK119.out (by decide))); have n3_ := aM' (blk_grown (g := gb120) (o := .cells #[.int .u64 a1_0, .int .u64 a1_1] 26 (0, 0)) (by (with_reducible repeat (first | refine blk_drewN ?_ _ | refine blk_drew ?_ | refine blk_alloc ?_ _)); exact BK120.out) hg (Kd.R_ne HO_9.out BK120.out (by decide))); have n4_ := aM' (blk_grown (g := gb121) (o := .cells #[.int .u64 0, .int .u64 0] 26 (0, 0)) (by (with_reducible repeat (first | refine blk_drewN ?_ _ | refine blk_drew ?_ | refine blk_alloc ?_ _)); exact BK121.out) hg (Kd.R_ne HO_9.out BK121.out (by decide))); have n5_ := aM' (hb); have n6_ := aM' (ho); clear HO_6; clear HO_7; clear BK119; clear BK120; clear BK121; clear HB; clear HO_9; have HO_6 := n0_; have HO_7 := n1_; have BK119 := n2_; have BK120 := n3_; have BK121 := n4_; have HB := n5_; have HO135 := n6_; clear n0_ n1_ n2_ n3_ n4_ n5_ n6_; clear ho hb hg hat; obtain ⟨Ao35, co35, eo35⟩ := Kd.R_slice HO135.out; subst eo35) | ((with_reducible refine gate_callee (f := 112) rfl ?_); refine goesL_ (some 45) rfl rfl Tryd.func112 (by kernel_rfl) rfl #[.slice Ao35 y133.length co35] rfl (by (try simp only [List.map_toArray, List.map_cons, List.map_nil]); first | done | rfl | (simp only [List.length_drop, List.length_take]; rfl)) ?_; (with_reducible refine (paymasterref01_number.calls k1 _ _ y133 t136 t137 false _ ?side1 ?side2 A21.out).mono ?_); (case side1 => repeat (first | exact (Kd.R_reads' HO135.out).2.2 | (with_reducible refine Kd.C_alloc ?_ _) | (with_reducible refine Kd.C_drewN ?_ _) | (with_reducible refine Kd.C_drew ?_))); (case side2 => exact (Kd.R_reads' HO135.out).2.1); rintro e w36 ⟨rfl, hb⟩; refine ⟨_, rfl, ?_⟩; have n0_ := aM' (Kd.R_below (by (with_reducible repeat (first | apply Kd.R_alloc | apply Kd.R_drewN | apply Kd.R_drew)); exact HO_6.out) hb); have n1_ := aM' (Kd.R_below (by (with_reducible repeat (first | apply Kd.R_alloc | apply Kd.R_drewN | apply Kd.R_drew)); exact HO_7.out) hb); have n2_ := aM' (Kd.R_below (by (with_reducible repeat (first | apply Kd.R_alloc | apply Kd.R_drewN | apply Kd.R_drew)); exact HO135.out) hb); have n3_ := aM' (blk_below (g := gb119) (o := .cells #[.int .u64 a0_0, .int .u64 a0_1] 26 (0, 0)) (by (with_reducible repeat (first | refine blk_drewN ?_ _ | refine blk_drew ?_ | refine blk_alloc ?_ _)); exact BK119.out) hb); have n4_ := aM' (blk_below (g := gb120) (o := .cells #[.int .u64 a1_0, .int .u64 a1_1] 26 (0, 0)) (by (with_reducible repeat (first | refine blk_drewN ?_ _ | refine blk_drew ?_ | refine blk_alloc ?_ _)); exact BK120.out) hb); have n5_ := aM' (blk_below (g := gb121) (o := .cells #[.int .u64 0, .int .u64 0] 26 (0, 0)) (by (with_reducible repeat (first | refine blk_drewN ?_ _ | refine blk_drew ?_ | refine blk_alloc ?_ _)); exact BK121.out) hb); have n6_ := aM' (below_step (by repeat (first | (with_reducible first | exact HB.out | apply below_alloc | apply pw_below_drewN | apply below_drew1 | refine below_set ?_ GE119.out | refine below_set ?_ GE120.out | refine below_set ?_ GE121.out) | exact HB.out)) hb); clear HO_6; clear HO_7; clear HO135; clear BK119; clear BK120; clear BK121; clear HB; have HO_6 := n0_; have HO_7 := n1_; have HO135 := n2_; have BK119 := n3_; have BK120 := n4_; have BK121 := n5_; have HB := n6_; clear n0_ n1_ n2_ n3_ n4_ n5_ n6_; (try clear hb); (try clear hb2); (try clear hk); (try clear hi)) | ((with_reducible refine gate_dst (N := 12) rfl ?_); refine box_event ?hg (N := 12) ?hd (cs := #[.int .u64 0, .int .u64 0]) (t := 26) ?hr ?_; (case hd => rfl); (case hg => rfl); (case hr => first | (go_simp; done) | (go_simp; rfl)); intro gb139 hg w37 hbox hb; have n0_ := aM' (Kd.R_below (by (with_reducible repeat (first | apply Kd.R_alloc | apply Kd.R_drewN | apply Kd.R_drew)); exact HO_6.out) hb); have n1_ := aM' (Kd.R_below (by (with_reducible repeat (first | apply Kd.R_alloc | apply Kd.R_drewN | apply Kd.R_drew)); exact HO_7.out) hb); have n2_ := aM' (Kd.R_below (by (with_reducible repeat (first | apply Kd.R_alloc | apply Kd.R_drewN | apply Kd.R_drew)); exact HO135.out) hb); have n3_ := aM' (blk_below (g := gb119) (o := .cells #[.int .u64 a0_0, .int .u64 a0_1] 26 (0, 0)) (by (with_reducible repeat (first | refine blk_drewN ?_ _ | refine blk_drew ?_ | refine blk_alloc ?_ _)); exact BK119.out) hb); have n4_ := aM' (blk_below (g := gb120) (o := .cells #[.int .u64 a1_0, .int .u64 a1_1] 26 (0, 0)) (by (with_reducible repeat (first | refine blk_drewN ?_ _ | refine blk_drew ?_ | refine blk_alloc ?_ _)); exact BK120.out) hb); have n5_ := aM' (blk_below (g := gb121) (o := .cells #[.int .u64 0, .int .u64 0] 26 (0, 0)) (by (with_reducible repeat (first | refine blk_drewN ?_ _ | refine blk_drew ?_ | refine blk_alloc ?_ _)); exact BK121.out) hb); have n6_ := aM' (below_step (by repeat (first | (with_reducible first | exact HB.out | apply below_alloc | apply pw_below_drewN | apply below_drew1 | refine below_set ?_ GE119.out | refine below_set ?_ GE120.out | refine below_set ?_ GE121.out) | exact HB.out)) hb); have n7_ := aM' (hbox); have n8_ := aM' ((by rw [hg]; exact (below_size (by repeat (first | (with_reducible first | exact HB.out | apply below_alloc | apply pw_below_drewN | apply below_drew1 | refine below_set ?_ GE119.out | refine below_set ?_ GE120.out | refine below_set ?_ GE121.out) | exact HB.out))) : w.heap.size ≤ gb139)); have n9_ := aM' ((by rw [hg]; exact (below_size (by repeat (first | (with_reducible first | exact HB.out | apply below_alloc | apply pw_below_drewN | apply below_drew1 | refine below_set ?_ GE119.out | refine below_set ?_ GE120.out | refine below_set ?_ GE121.out) | exact HB.out))) : w.heap.size ≤ gb139)); have n10_ := aM' ((by rw [hg]; exact Nat.ne_of_lt (blk_lt (g := gb119) (o := .cells #[.int .u64 a0_0, .int .u64 a0_1] 26 (0, 0)) (by (with_reducible repeat (first | refine blk_drewN ?_ _ | refine blk_drew ?_ | refine blk_alloc ?_ _)); exact BK119.out)) : gb119 ≠ gb139)); have n11_ := aM' ((by rw [hg]; exact Nat.ne_of_gt (blk_lt (g := gb119) (o := .cells #[.int .u64 a0_0, .int .u64 a0_1] 26 (0, 0)) (by (with_reducible repeat (first | refine blk_drewN ?_ _ | refine blk_drew ?_ | refine blk_alloc ?_ _)); exact BK119.out)) : gb139 ≠ gb119)); have n12_ := aM' ((by rw [hg]; exact Nat.ne_of_lt (blk_lt (g := gb120) (o := .cells #[.int .u64 a1_0, .int .u64 a1_1] 26 (0, 0)) (by (with_reducible repeat (first | refine blk_drewN ?_ _ | refine blk_drew ?_ | refine blk_alloc ?_ _)); exact BK120.out)) : gb120 ≠ gb139)); have n13_ := aM' ((by rw [hg]; exact Nat.ne_of_gt (blk_lt (g := gb120) (o := .cells #[.int .u64 a1_0, .int .u64 a1_1] 26 (0, 0)) (by (with_reducible repeat (first | refine blk_drewN ?_ _ | refine blk_drew ?_ | refine blk_alloc ?_ _)); exact BK120.out)) : gb139 ≠ gb120)); have n14_ := aM' ((by rw [hg]; exact Nat.ne_of_lt (blk_lt (g := gb121) (o := .cells #[.int .u64 0, .int .u64 0] 26 (0, 0)) (by (with_reducible repeat (first | refine blk_drewN ?_ _ | refine blk_drew ?_ | refine blk_alloc ?_ _)); exact BK121.out)) : gb121 ≠ gb139)); have n15_ := aM' ((by rw [hg]; exact Nat.ne_of_gt (blk_lt (g := gb121) (o := .cells #[.int .u64 0, .int .u64 0] 26 (0, 0)) (by (with_reducible repeat (first | refine blk_drewN ?_ _ | refine blk_drew ?_ | refine blk_alloc ?_ _)); exact BK121.out)) : gb139 ≠ gb121)); clear HO_6; clear HO_7; clear HO135; clear BK119; clear BK120; clear BK121; clear HB; have HO_6 := n0_; have HO_7 := n1_; have HO135 := n2_; have BK119 := n3_; have BK120 := n4_; have BK121 := n5_; have HB := n6_; have BK139 := n7_; have GW139 := n8_; have GE139 := n9_; have NB119_139 := n10_; have NB139_119 := n11_; have NB120_139 := n12_; have NB139_120 := n13_; have NB121_139 := n14_; have NB139_121 := n15_; clear n0_ n1_ n2_ n3_ n4_ n5_ n6_ n7_ n8_ n9_ n10_ n11_ n12_ n13_ n14_ n15_; clear hb hbox hg; have hnb38 := NB139_119.out; have hnc38 := NB119_139.out; have hnb39 := NB139_120.out; have hnc39 := NB120_139.out; have hnb40 := NB139_121.out; have hnc40 := NB121_139.out; have hcz41_0 : w37.cell? ⟨gb139, 0, none⟩ = some (.int .u64 0) := (blk_cell BK139.out 0).trans rfl; have hcz41_1 : w37.cell? ⟨gb139, 1, none⟩ = some (.int .u64 0) := (blk_cell BK139.out 1).trans rfl; have hfz41_0 := blk_frozen BK139.out 0; have hfz41_1 := blk_frozen BK139.out 1; have hnb42 := NB121_119.out; have hnc42 := NB119_121.out; have hnb43 := NB121_120.out; have hnc43 := NB120_121.out; have hcz44_0 : w37.cell? ⟨gb121, 0, none⟩ = some (.int .u64 0) := (blk_cell BK121.out 0).trans rfl; have hcz44_1 : w37.cell? ⟨gb121, 1, none⟩ = some (.int .u64 0) := (blk_cell BK121.out 1).trans rfl; have hfz44_0 := blk_frozen BK121.out 0; have hfz44_1 := blk_frozen BK121.out 1))
      refine bodyPost_ret (results_ct rfl _ _ gb121 26 #[.int .u64 0, .int .u64 0] (0, 0) _ rfl (by (with_reducible repeat (first | refine blk_drewN ?_ _ | refine blk_drew ?_ | refine blk_alloc ?_ _)); refine blk_put (cs := #[.int .u64 0, .int .u64 0]) ?_ 1 _ rfl; (with_reducible repeat (first | refine blk_drewN ?_ _ | refine blk_drew ?_ | refine blk_alloc ?_ _)); refine blk_put (cs := #[.int .u64 0, .int .u64 0]) ?_ 0 _ rfl; (with_reducible repeat (first | refine blk_drewN ?_ _ | refine blk_drew ?_ | refine blk_alloc ?_ _)); refine blk_far ?_ NB121_139.out _; (with_reducible repeat (first | refine blk_drewN ?_ _ | refine blk_drew ?_ | refine blk_alloc ?_ _)); refine blk_far ?_ NB121_139.out _; (with_reducible repeat (first | refine blk_drewN ?_ _ | refine blk_drew ?_ | refine blk_alloc ?_ _)); exact BK121.out) Tryd.underlying26 rfl (by kernel_rfl)) rfl ?_
      exact ⟨by first | rfl | (simp [errW_none, errW_some] <;> rfl) | (simp [*, errW_none, errW_some] <;> rfl), by repeat (first | (with_reducible first | exact HB.out | apply below_alloc | apply pw_below_drewN | apply below_drew1 | refine below_set ?_ GE119.out | refine below_set ?_ GE120.out | refine below_set ?_ GE121.out | refine below_set ?_ GE139.out) | exact HB.out)⟩
    ·
     rw [if_neg c20] at H
     exact absurd H (by simp)
def paymasterref01_Bytes.T6 : Bool × List (List Nat × List Nat) := (true, [([], []), ([], []), ([], []), ([1, 2], [1, 2]), ([3], [3]), ([4], [4]), ([5], [5]), ([], []), ([], []), ([7, 8], [7, 8]), ([9], [9]), ([10], [10]), ([11], [11]), ([6, 12], [6, 12]), ([0, 13], [0, 13]), ([14, 14, 0, 1, 2, 3, 4, 5, 6, 7, 8, 9, 10, 11, 12, 13, 14], [0, 14])])
def paymasterref01_Bytes.B6 : List Nat := [0, 0, 0, 6, 14, 30, 62, 0, 0, 384, 896, 1920, 3968, 8190, 16383, 32767]
theorem paymasterref01_Bytes.tab6 : rtab .any (opsOf Tryd.f137 6) = paymasterref01_Bytes.T6 := by kernel_rfl
theorem paymasterref01_Bytes.bits6 : waitsOk paymasterref01_Bytes.T6.2 paymasterref01_Bytes.B6 = true := by kernel_rfl
end Go.Proofs.YtijfifphcchbbaaDoor.P
namespace Go.Proofs.YtijfifphcchbbaaDoor.P
open Go.RowKit Go.Proofs.YtijfifphcchbbaaDoorW.PrintWords Go.Proofs.YtijfifphcchbbaaDoorW.PrintLast Go.Proofs.YtijfifphcchbbaaDoorW.PrintMore
attribute [local go_sem] max2_int min2_int max_two min_two max_three min_three max_four min_four-- for this text's walks alone
set_option linter.unusedVariables false
set_option linter.unusedSimpArgs false
attribute [local go_sem high] eqANode
def tag_MayWidth.f (a0 : Int) : Option (Bool) := if a0 ≥ 1 then (some (decide (a0 ≤ 32))) else (some false)
set_option maxHeartbeats 8000000 in
set_option maxRecDepth 100000 in
theorem tag_MayWidth.calls (a0 : Int) (r : Bool) (w : World) (h : tag_MayWidth.f a0 = some r) :
  Calls Tryd.prog 105 #[.int .i64 a0] w fun e w' => e = .returned (.bool r) ∧ Drawn0 w w' := by
 have H : (if a0 ≥ 1 then (some (decide (a0 ≤ 32))) else (some false)) = some r := h
 clear h
 by_cases c2 : a0 ≥ 1
 ·
  rw [if_pos c2] at H
  have c2b0 : decide (1 ≤ a0) = true := decide_eq_true c2
  clear c2
  obtain rfl := Option.some.inj H
  go_enter Tryd.func105, Tryd.ntmps105
  go_wp2
  go_ret
  exact ⟨by first | rfl | (simp; done) | (simp [*]; done), by repeat (first | exact Drawn0.refl _ | apply Drawn0.step)⟩
 ·
  rw [if_neg c2] at H
  have c2b0 : decide (1 ≤ a0) = false := decide_eq_false c2
  clear c2
  obtain rfl := Option.some.inj H
  go_enter Tryd.func105, Tryd.ntmps105
  go_wp2
  go_ret
  exact ⟨by first | rfl | (simp; done) | (simp [*]; done), by repeat (first | exact Drawn0.refl _ | apply Drawn0.step)⟩
end Go.Proofs.YtijfifphcchbbaaDoor.P
namespace Go.Proofs.YtijfifphcchbbaaDoor.P
open Go.RowKit Go.Proofs.YtijfifphcchbbaaDoorW.PrintWords Go.Proofs.YtijfifphcchbbaaDoorW.PrintLast Go.Proofs.YtijfifphcchbbaaDoorW.PrintMore
set_option linter.unusedVariables false
set_option linter.unusedSimpArgs false
set_option linter.unnecessarySimpa false
theorem bldSize : (Tryd.prog.info? 252).map (·.size) = some 2 := by kernel_rfl
theorem bldLies : liesAt Tryd.prog Tryd.prog.depth 252 (2 / Tryd.prog.cellsOf 252) 0 252 1 = true := by kernel_rfl
theorem byteInfo : (Tryd.prog.info? 5).map (fun i => (i.zero, i.size, i.bytes)) = some (some (.int .u8 0), 1, 1) := by kernel_rfl
theorem noEscapeExt (w : World) (x : Value) : (callFunc 195 #[x]).run Tryd.prog w = .ok (.value x) w := by
 rw [run_callFunc_extern Tryd.func195 (by kernel_rfl) (by kernel_rfl) (by kernel_rfl) (e := Extern.AbiNoEscape.same) (by kernel_rfl)]
 rw [Lib.run_noEscape]
 rfl
set_option maxHeartbeats 1000000 in
set_option maxRecDepth 100000 in
theorem copyCheck_used (b : Nat) (w : World) (h0 : w.cell? ⟨b, 0, none⟩ = some (.pointer (some ⟨b, 0, none⟩))) :
  Calls Tryd.prog 189 #[.pointer (some ⟨b, 0, none⟩)] w fun e w' => e = .returned (.tuple #[]) ∧ w' = w := by
 obtain ⟨j, hj, _⟩ := Option.map_eq_some_iff.1 bldSize
 go_enter Tryd.func189, Tryd.ntmps189
 go_wp2
 rw [Lib.run_neq_ptr_same w _ Tryd.underlying250 hj]
 go_wp2
 go_end0
 exact ⟨rfl, rfl⟩
set_option maxHeartbeats 1000000 in
set_option maxRecDepth 100000 in
theorem copyCheck_fresh (b : Nat) (w : World) (h0 : w.cell? ⟨b, 0, none⟩ = some (.pointer none)) (hsh : w.shape? b = some (252, 2)) (hfz : w.frozen? ⟨b, 0, none⟩ = false) :
  Calls Tryd.prog 189 #[.pointer (some ⟨b, 0, none⟩)] w fun e w' => e = .returned (.tuple #[]) ∧ w' = w.setCell ⟨b, 0, none⟩ (.pointer (some ⟨b, 0, none⟩)) := by
 obtain ⟨j, hj, hjs⟩ := Option.map_eq_some_iff.1 bldSize
 go_enter Tryd.func189, Tryd.ntmps189
 go_wp2
 rw [Lib.run_to_unsafe w ⟨b, 0, none⟩ Tryd.underlying250 Tryd.underlying266 hj (by rw [hjs]; decide) hsh (Nat.zero_lt_succ 1)]
 simp only [Result.andThen]
 rw [Oper.upon_value]
 go_wp2
 rw [noEscapeExt]
 rw [Oper.upon_value]
 go_wp2
 rw [Lib.run_from_unsafe w ⟨b, 0, none⟩ Tryd.underlying266 Tryd.underlying250 hj hsh bldLies]
 simp only [Result.andThen]
 rw [Oper.upon_value]
 go_wp2
 go_end0
 exact ⟨rfl, rfl⟩
theorem copyCheck.calls (B b : Nat) (bs : List Value) (w : World) (h : Lib.IsBuilder 252 5 B b bs w) :
  Calls Tryd.prog 189 #[.pointer (some ⟨b, 0, none⟩)] w fun e w' => e = .returned (.tuple #[]) ∧ (Lib.BuilderAt 252 5 B b (.pointer (some ⟨b, 0, none⟩)) bs w' ∧ Below B w w') := by
 rcases h with h | h
 ·
  refine (copyCheck_fresh b w h.cell0 h.shape h.frozen0).mono ?_
  rintro e w' ⟨rfl, rfl⟩
  exact ⟨rfl, h.used _, (Below.refl B w).setCell (p := ⟨b, 0, none⟩) h.1 _⟩
 ·
  refine (copyCheck_used b w h.cell0).mono ?_
  rintro e w' ⟨rfl, rfl⟩
  exact ⟨rfl, h, Below.refl B _⟩
set_option maxHeartbeats 2000000 in
set_option maxRecDepth 100000 in
theorem writeByte.calls (B b : Nat) (bs : List Value) (c : Int) (w : World) (h : Lib.IsBuilder 252 5 B b bs w) (hlen : bs.length + 1 ≤ 140737488355328) (hBw : B ≤ w.heap.size) :
  Calls Tryd.prog 182 #[.pointer (some ⟨b, 0, none⟩), .int .u8 c] w fun e w' => e = .returned .nilIface ∧ (Lib.IsBuilder 252 5 B b (bs ++ [.int .u8 c]) w' ∧ Below B w w') := by
 obtain ⟨i0, hi, hz0, hz1, hz2⟩ := info_parts byteInfo
 go_enter Tryd.func182, Tryd.ntmps182
 go_wp2_with fail
 refine (copyCheck.calls B b bs _ h).mono ?_
 rintro e w1 ⟨rfl, h1, hb1⟩
 obtain ⟨hB, v, hbk, hown, hne⟩ := h1
 have c0 : w1.cell? ⟨b, 0, none⟩ = some (.pointer (some ⟨b, 0, none⟩)) := by rw [Lib.cell_of_heap hbk]; rfl
 have c1 : w1.cell? ⟨b, 1, none⟩ = some v := by rw [Lib.cell_of_heap hbk]; rfl
 go_wp2_with (at_builtin; refine wpList_append_own _ rfl _ _ 54 rfl B 5 i0 (.int .u8 0) 1 1 Tryd.underlying54 hi hz0 hz1 hz2 rfl (by decide) _ _ _ rfl (hown.alloc _) ⟨w1.heap.size, 0, none⟩ 1 1 [.int .u8 c] rfl rfl ?c1 ?c2 ?c3 ?c4 ?c5 ?_)
 case c1 =>
  intro j u hj
  match j, hj with
  | 0, hj => simp at hj; subst hj; simp [Addr.add]
 case c2 => intro u hu; simp at hu; subst hu; rfl
 case c3 => unfold maxLen; omega
 case c4 => omega
 case c5 => have := hb1.size; simp; omega
 intro v' w2 hown' hgrow _
 have hlt : b < w1.heap.size := by
  rcases Nat.lt_or_ge b w1.heap.size with h' | h'
  ·
   exact h'
  ·
   simp [Array.getElem?_eq_none h'] at hbk
 have hb2 : w2.heap[b]? = some (.cells #[.pointer (some ⟨b, 0, none⟩), v] 252 (0, 0)) := by
  rw [hgrow.block b (by simp; omega) (fun e => hne e.symm), Lib.alloc_old w1 _ b hlt]
  exact hbk
 have d0 : w2.cell? ⟨b, 0, none⟩ = some (.pointer (some ⟨b, 0, none⟩)) := by rw [Lib.cell_of_heap hb2]; rfl
 have d1 : w2.cell? ⟨b, 1, none⟩ = some v := by rw [Lib.cell_of_heap hb2]; rfl
 have f1 : w2.frozen? ⟨b, 1, none⟩ = false := Lib.frozen_of_heap hb2 1
 obtain ⟨g, cap, rfl⟩ : ∃ g cap, v' = .slice (some ⟨g, 0, none⟩) (bs.length + 1) cap := by
  rcases hown'.2 with ⟨_, h0⟩ | ⟨g, cap, cur, hv, _⟩
  ·
   omega
  ·
   exact ⟨g, cap, hv⟩
 go_wp2
 go_ret
 refine ⟨rfl, ?_, ?_⟩
 ·
  exact .inr (Lib.BuilderAt.put (T := 252) (e := 5) hB hb2 (bs' := bs ++ [.int .u8 c]) (by simpa using hown') (by decide))
 ·
  exact ((hb1.alloc (by have := hb1.size; omega) _).grown hgrow (by have := hb1.size; simp; omega) (fun k hk => (hown.lt k hk).1)).setCell (p := ⟨b, 1, none⟩) hB _
def BAt (R b : Nat) (p : Value) (bs : List Value) (w : World) : Prop :=
 ∃ v, w.heap[b]? = some (.cells #[p, v] 252 (0, 0)) ∧ w.ownsRow R 5 1 v bs.length bs ∧ v.ownBlock ≠ some b
def IsBAt (R b : Nat) (bs : List Value) (w : World) : Prop := BAt R b (.pointer none) bs w ∨ BAt R b (.pointer (some ⟨b, 0, none⟩)) bs w
structure KeepsBut (R b : Nat) (w w' : World) : Prop where
 os : w'.os = w.os
 tape : w'.tape = w.tape
 output : w'.output = w.output
 size : w.heap.size ≤ w'.heap.size
 block : ∀ k, k < R → k ≠ b → w'.heap[k]? = w.heap[k]?
theorem KeepsBut.refl (R b : Nat) (w : World) : KeepsBut R b w w := ⟨rfl, rfl, rfl, Nat.le_refl _, fun _ _ _ => rfl⟩
theorem KeepsBut.trans {R b : Nat} {w w1 w2 : World} (h : KeepsBut R b w w1) (k : KeepsBut R b w1 w2) : KeepsBut R b w w2 :=
 ⟨k.os.trans h.os, k.tape.trans h.tape, k.output.trans h.output, Nat.le_trans h.size k.size, fun i hi hn => (k.block i hi hn).trans (h.block i hi hn)⟩
theorem KeepsBut.below {R b : Nat} {w w1 : World} (h : KeepsBut R b w w1) (hb : b ≤ R) : Below b w w1 := ⟨h.os, h.tape, h.output, h.size, fun i hi => h.block i (by omega) (by omega)⟩
theorem IsBAt.builder {R b : Nat} {bs : List Value} {w : World} (h : IsBAt R b bs w) (hb : b ≤ R) : Lib.IsBuilder 252 5 b b bs w := by
 have key : ∀ p, BAt R b p bs w → Lib.BuilderAt 252 5 b b p bs w := by
  rintro p ⟨v, h1, ⟨hl, h2⟩, h3⟩
  refine ⟨Nat.le_refl _, v, h1, ⟨hl, ?_⟩, h3⟩
  rcases h2 with h2 | ⟨g, cap, cur, e1, e2, e3⟩
  ·
   exact .inl h2
  ·
   exact .inr ⟨g, cap, cur, e1, by omega, e3⟩
 rcases h with h | h
 ·
  exact .inl (key _ h)
 ·
  exact .inr (key _ h)
theorem BAt.fresh (R b : Nat) (w : World) (h : w.heap[b]? = some (.cells #[.pointer none, .slice none 0 0] 252 (0, 0))) : IsBAt R b [] w :=
 .inl ⟨_, h, ⟨rfl, .inl ⟨rfl, rfl⟩⟩, by simp [Value.ownBlock]⟩
theorem BAt.used {R b : Nat} {p : Value} {bs : List Value} {w : World} (h : BAt R b p bs w) (q : Value) : BAt R b q bs (w.setCell ⟨b, 0, none⟩ q) := by
 obtain ⟨v, hb, hown, hne⟩ := h
 refine ⟨v, ?_, ?_, hne⟩
 ·
  have := blk_set hb 0 q
  simpa using this
 ·
  obtain ⟨hl, h2⟩ := hown
  refine ⟨hl, ?_⟩
  rcases h2 with h2 | ⟨g, cap, cur, e1, e2, e3, e4⟩
  ·
   exact .inl h2
  ·
   refine .inr ⟨g, cap, cur, e1, e2, ?_, e4⟩
   have hgb : g ≠ b := by intro e; rw [e1, e] at hne; exact hne rfl
   exact (Below.heap_setCell w _ q g hgb).trans e3
end Go.Proofs.YtijfifphcchbbaaDoor.P
namespace Go.Proofs.YtijfifphcchbbaaDoor.P
open Go.RowKit Go.Proofs.YtijfifphcchbbaaDoorW.PrintWords Go.Proofs.YtijfifphcchbbaaDoorW.PrintLast Go.Proofs.YtijfifphcchbbaaDoorW.PrintMore
set_option linter.unusedVariables false
set_option linter.unusedSimpArgs false
set_option linter.unnecessarySimpa false
def padZ (n : Int) : Nat := ((119 - n) % 64).toNat
def padB (n : Int) (i : Nat) : Int := IntKind.u64.wrap (n * 8) / 2 ^ (56 - 8 * i) % 256
def padL (n : Int) (k : Nat) : List UInt8 := 128 :: (List.replicate (padZ n) 0 ++ (List.range k).map fun i => (padB n i).toNat.toUInt8)
theorem padL_step (n : Int) (k : Nat) : Lib.byteCells (padL n (k + 1)) = Lib.byteCells (padL n k) ++ [.int .u8 (padB n k)] := by
 have h0 : 0 ≤ padB n k := Int.emod_nonneg _ (by decide)
 have h1 : padB n k < 256 := Int.emod_lt_of_pos _ (by decide)
 simp only [padL, Lib.byteCells, List.range_succ, List.map_append, List.map_cons, List.map_nil, List.cons_append, List.append_assoc]
 congr 4
 have : ((padB n k).toNat.toUInt8.toNat : Int) = padB n k := by
  rw [Nat.toUInt8, UInt8.toNat_ofNat']
  omega
 rw [this]
def padI (n : Int) : ByteArray := ⟨(padL n 8).toArray⟩
set_option maxRecDepth 100000 in
set_option maxHeartbeats 4000000 in
theorem padding.calls (n : Int) (h0 : 0 ≤ n) (h1 : n < 18446744073709551616) (w : World) :
  Calls Tryd.prog 170 #[.int .u64 n] w fun e w' => e = .returned (.string (padI n)) ∧ Below w.heap.size w w' := by
 go_enter Tryd.func170, Tryd.ntmps170
 go_wp2_with fail
 refine (writeByte.calls w.heap.size w.heap.size [] 128 _ (Lib.fresh_isBuilder _ _ w) (by decide) (by simp)).mono ?_
 rintro e w1 ⟨rfl, hb1, hB1⟩
 have hBB : Below w.heap.size w w1 := Below.trans (below_alloc (Below.refl _ _) _) hB1
 have HB1 := aM' hb1
 have HBB := aM' hBB
 clear hb1 hB1 hBB
 go_wp2_with fail
 go_loopw [6] (fun v wr => ∃ k : Nat, (intOf v).toNat = k ∧ k ≤ padZ n ∧ Aside0 (Lib.IsBuilder 252 5 w.heap.size w.heap.size (Lib.byteCells (128 :: List.replicate k 0)) wr) ∧ Aside0 (Below w.heap.size w wr)) (fun v _ => padZ n + 1 - (intOf v).toNat)
 case atStart => exact ⟨0, rfl, by omega, HB1, HBB⟩
 case round =>
  obtain ⟨k, hv, hk, HB, HW⟩ := hrel
  have hzz : ((padZ n : Nat) : Int) = (119 - n) % 64 := by simp only [padZ]; omega
  have HV := aM' hv
  clear hv
  by_cases hlt : k < padZ n
  ·
   have b1 : decide ((k : Int) + 1 < 1 + (119 - n) % 64) = true := decide_eq_true (by omega)
   have HZ := aM' hzz
   clear hzz
   go_wp2_with fail
   refine (Tryd.Builder_Len w.heap.size w.heap.size _ _ HB.out).mono ?_
   rintro e w2 ⟨rfl, rfl⟩
   have hl : (((Lib.byteCells (128 :: List.replicate k 0)).length : Nat) : Int) = (k : Int) + 1 := by simp [Lib.byteCells]
   rw [hl]
   clear hl
   go_wp2_with fail
   refine (writeByte.calls w.heap.size w.heap.size _ 0 _ HB.out (by simp [Lib.byteCells]; have := HZ.out; omega) HW.out.size).mono ?_
   rintro e w1 ⟨rfl, hb1, hB1⟩
   have HB2 := aM' hb1
   have HW2 := aM' (HW.out.trans hB1)
   clear hb1 hB1 b1
   go_wp2_with fail
   go_roundw
   case rel =>
    refine ⟨k + 1, by simp [intOf], hlt, ⟨?_⟩, HW2⟩
    have e2 : Lib.byteCells (128 :: List.replicate (k + 1) 0) = Lib.byteCells (128 :: List.replicate k 0) ++ [.int .u8 0] := by
     simp [Lib.byteCells, List.replicate_succ']
    rw [e2]
    exact HB2.out
   case measure => rw [HV.out]; simp [intOf]; omega
  ·
   have b1 : decide ((k : Int) + 1 < 1 + (119 - n) % 64) = false := decide_eq_false (by omega)
   have HZ := aM' hzz
   clear hzz
   go_wp2_with fail
   refine (Tryd.Builder_Len w.heap.size w.heap.size _ _ HB.out).mono ?_
   rintro e w2 ⟨rfl, rfl⟩
   have hl : (((Lib.byteCells (128 :: List.replicate k 0)).length : Nat) : Int) = (k : Int) + 1 := by simp [Lib.byteCells]
   rw [hl]
   clear hl
   go_wp2_with fail
   obtain rfl : k = padZ n := by omega
   have e119 : (119 - n % 64) % 64 = (119 - n) % 64 := by omega
   rw [e119]
   clear e119
   go_loopw [4] (fun v wr => ∃ i : Nat, v = .int .i64 (56 - 8 * (i : Int)) ∧ i ≤ 8 ∧ Aside0 (Lib.IsBuilder 252 5 w.heap.size w.heap.size (Lib.byteCells (padL n i)) wr) ∧ Aside0 (Below w.heap.size w wr)) (fun v _ => (8 + intOf v).toNat)
   case atStart => exact ⟨0, rfl, by omega, ⟨by simpa [padL] using HB.out⟩, HW⟩
   case round =>
    obtain ⟨i, rfl, hi, HB3, HW3⟩ := hrel
    by_cases hlt2 : i < 8
    ·
     have b2 : decide (0 ≤ 56 - 8 * (i : Int)) = true := decide_eq_true (by omega)
     have b3 : 0 ≤ 56 - 8 * (i : Int) := by omega
     clear b1
     go_wp2_with fail
     refine (writeByte.calls w.heap.size w.heap.size _ (padB n i) _ HB3.out (by simp [Lib.byteCells, padL]; have := HZ.out; omega) HW3.out.size).mono ?_
     rintro e w1 ⟨rfl, hb1, hB1⟩
     rw [← padL_step] at hb1
     have HB4 := aM' hb1
     have HW4 := aM' (HW3.out.trans hB1)
     have e8 : IntKind.i64.wrap (56 - 8 * (i : Int) - 8) = 56 - 8 * ((i + 1 : Nat) : Int) := by
      rw [IntWalk.i64_in _ (by omega)]; omega
     clear hb1 hB1 b2 b3
     go_wp2_with fail
     go_roundw
     case rel =>
      exact ⟨i + 1, by go_num, by omega, HB4, HW4⟩
     case measure => simp [intOf]; omega
    ·
     have b2 : decide (0 ≤ 56 - 8 * (i : Int)) = false := decide_eq_false (by omega)
     clear b1
     go_wp2_with fail
     obtain rfl : i = 8 := by omega
     refine (Tryd.Builder_String_any w.heap.size w.heap.size _ _ HB3.out HW3.out.size).mono ?_
     rintro e w2 ⟨rfl, hB2⟩
     go_wp2
     go_ret
     exact ⟨rfl, HW3.out.trans hB2⟩
def wordL (x : Int) : List Int := [x / 16777216 % 256, x / 65536 % 256, x / 256 % 256, x % 256]
def digL (s : S8) (k : Nat) : List Int := (List.range k).flatMap fun i => wordL (s.get i)
def digestI (s : S8) : ByteArray := strOfNums (digL s 8)
theorem digL_succ (s : S8) (k : Nat) : digL s (k + 1) = digL s k ++ wordL (s.get k) := by simp [digL, List.range_succ]
theorem digL_length (s : S8) (k : Nat) : (digL s k).length = 4 * k := by
 induction k with
 | zero => rfl
 | succ k ih => rw [digL_succ, List.length_append, ih]; simp [wordL]; omega
theorem nums_append (k : IntKind) (a b : List Int) : nums k (a ++ b) = nums k a ++ nums k b := by simp [nums]
set_option maxRecDepth 1000000 in
theorem state_index (s : S8) (k : Nat) (h : k < 8) (w : World) : (Instr.index 228 (.agg #[.int .u32 s.x0, .int .u32 s.x1, .int .u32 s.x2, .int .u32 s.x3, .int .u32 s.x4, .int .u32 s.x5, .int .u32 s.x6, .int .u32 s.x7]) (.int .i64 (k : Int))).run Tryd.prog w = .ok (.int .u32 (s.get k)) w := by
 have : k = 0 ∨ k = 1 ∨ k = 2 ∨ k = 3 ∨ k = 4 ∨ k = 5 ∨ k = 6 ∨ k = 7 := by omega
 rcases this with h | h | h | h | h | h | h | h <;> subst h <;> rfl
set_option maxRecDepth 100000 in
set_option maxHeartbeats 4000000 in
theorem digest.calls (s : S8) (w : World) :
  Calls Tryd.prog 171 #[stV s] w fun e w' => e = .returned (.string (digestI s)) ∧ Below w.heap.size w w' := by
 have hu := Tryd.underlying228
 obtain ⟨i0, hi, hz0, hz1, hz2⟩ := info_parts byteInfo
 go_enter Tryd.func171, Tryd.ntmps171
 go_wp2_with fail
 go_loopw [7, 3] (fun v u wr => ∃ k : Nat, v = .int .i64 k ∧ k ≤ 8 ∧ Aside0 (wr.ownsRow w.heap.size 5 1 u (4 * k) (nums .u8 (digL s k))) ∧ Aside0 (Below w.heap.size w wr)) (fun v _ _ => 8 - (intOf v).toNat)
 case atStart => exact ⟨0, rfl, by omega, ⟨⟨rfl, .inl ⟨rfl, rfl⟩⟩⟩, ⟨below_alloc (Below.refl _ _) _⟩⟩
 case round =>
  obtain ⟨k, rfl, hk, HO, HB⟩ := hrel
  by_cases hlt : k < 8
  ·
   have b1 : decide ((k : Int) < 8) = true := decide_eq_true (by omega)
   have g1 : (k : Int) < 8 := by omega
   have hix := state_index s k hlt
   obtain ⟨x, hx⟩ : ∃ x, x = s.get k := ⟨_, rfl⟩
   rw [← hx] at hix
   have HX := aM' hx
   clear hx
   have hl0 := HO.out.1
   go_wp2_with (at_builtin; refine wpList_append_own _ rfl _ _ 54 rfl w.heap.size 5 i0 (.int .u8 0) 1 1 Tryd.underlying54 hi hz0 hz1 hz2 rfl (by decide) _ _ _ rfl (HO.out.alloc _) ⟨wr.heap.size, 0, none⟩ 4 4 (nums .u8 (wordL x)) rfl rfl ?c1 ?c2 ?c3 ?c4 ?c5 ?_)
   case c1 =>
    intro j u hj
    match j, hj with
    | 0, hj => simp [nums, wordL] at hj; subst hj; simp [Addr.add]
    | 1, hj => simp [nums, wordL] at hj; subst hj; simp [Addr.add]
    | 2, hj => simp [nums, wordL] at hj; subst hj; simp [Addr.add]
    | 3, hj => simp [nums, wordL] at hj; subst hj; simp [Addr.add]
   case c2 => intro u hu; simp [nums, wordL] at hu; rcases hu with hu | hu | hu | hu <;> subst hu <;> rfl
   case c3 => unfold maxLen; omega
   case c4 => omega
   case c5 => have := HB.out.size; simp; omega
   intro v' w2 hown' hgrow _
   have HO2 := aM' hown'
   have HB2 := aM' (((HB.out.alloc HB.out.size _)).grown hgrow (by have := HB.out.size; simp; omega) (fun k hk => (HO.out.lt k hk).1))
   clear hown' hgrow hix
   go_wp2_with fail
   go_roundw
   case rel =>
    refine ⟨k + 1, by go_num, by omega, ⟨?_⟩, HB2⟩
    rw [digL_succ, ← HX.out, nums_append]
    exact HO2.out
   case measure => simp [intOf]; omega
  ·
   have b1 : decide ((k : Int) < 8) = false := decide_eq_false (by omega)
   obtain rfl : k = 8 := by omega
   have hown := HO.out
   obtain ⟨hl, h2⟩ := hown
   rcases h2 with ⟨_, h0⟩ | ⟨g, cap, cur, rfl, e2, e3, e4, e5, e6, e7⟩
   ·
    omega
   have hcv := run_convert_bytes_arg wr 54 5 Tryd.underlying54 Tryd.underlying5 g 0 32 cap (digL s 8) (digL_length s 8) (fun i hi => by
    have h1 : (cur.toList.take (4 * 8 * 1))[i]? = some (.int .u8 ((digL s 8).getD i 0)) := by
     rw [e7]; simp [nums, digL_length, hi]
    rw [List.getElem?_take_of_lt (by omega)] at h1
    rw [Nat.zero_add, blk_cell e3 i]
    simpa using h1) 9 Tryd.underlying9
   have HB2 := HB
   clear HO e3 e7 HB
   go_wp2_with fail
   go_ret
   exact ⟨rfl, HB2.out⟩
end Go.Proofs.YtijfifphcchbbaaDoor.P
namespace Go.Proofs.YtijfifphcchbbaaDoor.P
open Go.RowKit Go.Proofs.YtijfifphcchbbaaDoorW.PrintWords Go.Proofs.YtijfifphcchbbaaDoorW.PrintLast Go.Proofs.YtijfifphcchbbaaDoorW.PrintMore
set_option linter.unusedVariables false
set_option linter.unusedSimpArgs false
set_option linter.unnecessarySimpa false
def firstI : S8 := ⟨1779033703, 3144134277, 1013904242, 2773480762, 1359893119, 2600822924, 528734635, 1541459225⟩
theorem first.calls (w : World) : Calls Tryd.prog 164 #[] w fun e w' => e = .returned (stV firstI) ∧ Below w.heap.size w w' := by
 have hu := Tryd.underlying228
 go_enter Tryd.func164, Tryd.ntmps164
 go_wp2_with fail
 refine bodyPost_ret (v := stV firstI) ?_ rfl ⟨rfl, ?_⟩
 ·
  simp [results, Tryd.results164, go_sem, firstI]
 ·
  repeat (with_reducible first | exact Below.refl _ _ | apply below_alloc | refine below_set ?_ (Nat.le_refl _))
def newRun : Run := ⟨firstI, ByteArray.empty, 0⟩
theorem new.calls (w : World) : Calls Tryd.prog 138 #[] w fun e w' => ∃ g, e = .returned (.pointer (some ⟨g, 0, none⟩)) ∧ w.heap.size ≤ g ∧ IsRun w' g newRun ∧ Below w.heap.size w w' := by
 have hu := Tryd.underlying228
 go_enter Tryd.func138, Tryd.ntmps138
 go_wp2_with fail
 refine (first.calls _).mono ?_
 rintro e w1 ⟨rfl, hB⟩
 go_wp2
 go_ret
 exact ⟨w1.heap.size, rfl, hB.size, blk_new w1 _, hB.alloc hB.size _⟩
theorem none.calls (g : Nat) (r : Run) (w : World) (hg : IsRun w g r) : Calls Tryd.prog 168 #[.pointer (some ⟨g, 0, none⟩)] w fun e w' => e = .returned (.bool false) ∧ w' = w := by
 have h0 : w.cell? ⟨g, 0, none⟩ = some (.bool true) := blk_cell hg 0
 go_enter Tryd.func168, Tryd.ntmps168
 go_wp2_with fail
 go_ret
 exact ⟨rfl, rfl⟩
theorem copy.calls (g : Nat) (r : Run) (w : World) (hg : IsRun w g r) : Calls Tryd.prog 169 #[.pointer (some ⟨g, 0, none⟩)] w fun e w' => ∃ g', e = .returned (.pointer (some ⟨g', 0, none⟩)) ∧ w.heap.size ≤ g' ∧ IsRun w' g' r ∧ Below w.heap.size w w' := by
 obtain ⟨e1, e2, e3, e4, e5, e6, e7, e8⟩ := run_cells hg
 have e0 : w.cell? ⟨g, 0, none⟩ = some (.bool true) := blk_cell hg 0
 have e9 : w.cell? ⟨g, 9, none⟩ = some (.string r.rest) := blk_cell hg 9
 have e10 : w.cell? ⟨g, 10, none⟩ = some (.int .u64 r.n) := blk_cell hg 10
 have hlt : g < w.heap.size := blk_lt hg
 have hne : g ≠ w.heap.size := Nat.ne_of_lt hlt
 have hu := Tryd.underlying228
 clear hg
 go_enter Tryd.func169, Tryd.ntmps169
 go_wp2_with fail
 go_ret
 exact ⟨w.heap.size, rfl, Nat.le_refl _, blk_new w _, below_alloc (Below.refl _ _) _⟩
def Run.sum (r : Run) : ByteArray := digestI (takeI r (padI r.n)).s
theorem padI_size (n : Int) : (padI n).size = 9 + padZ n := by simp [padI, padL, ByteArray.size]; omega
set_option maxRecDepth 100000 in
set_option maxHeartbeats 1000000 in
theorem sum_run.calls (g : Nat) (r : Run) (w : World) (hK : Laid w) (hg : IsRun w g r) (h0 : 0 ≤ r.n) (h1 : r.n < 18446744073709551616) (hr : r.rest.size < 64) :
  Calls Tryd.prog 140 #[.pointer (some ⟨g, 0, none⟩)] w fun e w' => e = .returned (.tuple #[.string r.sum, .int .i64 0]) ∧ Below w.heap.size w w' := by
 have HK := aM' hK
 have HG := aM' hg
 have hu := Tryd.underlying228
 clear hK hg
 go_enter Tryd.func140, Tryd.ntmps140
 go_wp2_with fail
 refine (none.calls g r _ HG.out).mono ?_
 rintro e w1 ⟨rfl, rfl⟩
 go_wp2_with fail
 refine (copy.calls g r _ HG.out).mono ?_
 rintro e w1 ⟨g2, rfl, hg2, hr2, hB1⟩
 have h10 : w1.cell? ⟨g, 10, none⟩ = some (.int .u64 r.n) := blk_cell (blk_below HG.out hB1) 10
 have HB1 := aM' hB1
 have HR2 := aM' hr2
 have HG2 := aM' hg2
 clear hB1 hr2 hg2
 go_wp2_with fail
 refine (padding.calls r.n h0 h1 _).mono ?_
 rintro e w2 ⟨rfl, hB2⟩
 have HB2 := aM' (HB1.out.trans (hB2.mono HB1.out.size))
 have HR3 : IsRun w2 g2 r := blk_below HR2.out hB2
 clear hB2 h10
 go_wp2_with fail
 refine (takes.calls g2 r (padI r.n) _ (HK.out.below HB2.out) HR3 (by rw [padI_size]; unfold padZ; omega)).mono ?_
 rintro e w3 ⟨rfl, hr3, hb3⟩
 have HB3 := aM' (HB2.out.grown hb3 HB2.out.size (fun k e => by cases e; exact HG2.out))
 obtain ⟨c1, c2, c3, c4, c5, c6, c7, c8⟩ := run_cells hr3
 clear hr3 hb3
 have HS := aM' (show (takeI r (padI r.n)).s = (takeI r (padI r.n)).s from rfl)
 have hs : r.sum = digestI (takeI r (padI r.n)).s := rfl
 generalize (takeI r (padI r.n)).s = y at c1 c2 c3 c4 c5 c6 c7 c8 hs
 have HY := aM' hs
 clear hs HR3 HS
 go_wp2_with fail
 refine (digest.calls y _).mono ?_
 rintro e w4 ⟨rfl, hB4⟩
 go_wp2_with fail
 go_ret2
 rw [HY.out]
 exact ⟨rfl, HB3.out.trans (hB4.mono HB3.out.size)⟩
def sumI (t : ByteArray) : ByteArray := (takeI newRun t).sum
theorem u64_wrap_range (x : Int) : 0 ≤ IntKind.u64.wrap x ∧ IntKind.u64.wrap x < 18446744073709551616 := by rw [IntKind.wrap_u64]; omega
theorem eat_rest (l : List (ByteArray × Bool)) : ∀ (r : Run), (∀ x ∈ l, x.2 = false → x.1.size < 64) → r.rest.size < 64 → (l.foldl eat r).rest.size < 64 ∧ (l.foldl eat r).n = r.n := by
 induction l with
 | nil => intro r _ h; exact ⟨h, rfl⟩
 | cons x l ih =>
  intro r hx hr
  rw [List.foldl_cons]
  have h1 : (eat r x).rest.size < 64 ∧ (eat r x).n = r.n := by
   unfold eat
   split
   ·
    exact ⟨by show ByteArray.empty.size < 64; decide, rfl⟩
   ·
    exact ⟨hx x (by simp) (by simp_all), rfl⟩
  obtain ⟨h2, h3⟩ := ih (eat r x) (fun y hy => hx y (by simp [hy])) h1.1
  exact ⟨h2, h3.trans h1.2⟩
theorem blksN_small : ∀ (n : Nat) (t : ByteArray), t.size / 64 = n → ∀ x ∈ blksN n t, x.2 = false → x.1.size < 64
 | 0, t, h, x, hx, _ => by simp [blksN] at hx; subst hx; show t.size < 64; omega
 | n + 1, t, h, x, hx, hf => by
  rw [blksN, List.mem_cons] at hx
  rcases hx with hx | hx
  ·
   subst hx; cases hf
  ·
   exact blksN_small n _ (by rw [ByteArray.size_extract]; omega) x hx hf
theorem takeI_small (r : Run) (t : ByteArray) (h : r.rest.size < 64) : (takeI r t).rest.size < 64 ∧ (takeI r t).n = IntKind.u64.wrap (r.n + (t.size : Int)) :=
 eat_rest _ _ (blksN_small _ _ rfl) h
set_option maxRecDepth 100000 in
set_option maxHeartbeats 1000000 in
theorem sum.calls (t : ByteArray) (w : World) (hK : Laid w) (ht : t.size ≤ 4611686018427387904) :
  Calls Tryd.prog 106 #[.string t] w fun e w' => e = .returned (.string (sumI t)) ∧ Below w.heap.size w w' := by
 have HK := aM' hK
 clear hK
 go_enter Tryd.func106, Tryd.ntmps106
 go_wp2_with fail
 refine (new.calls _).mono ?_
 rintro e w1 ⟨g, rfl, hg, hr, hB⟩
 have HB := aM' hB
 have HR := aM' hr
 have HG := aM' hg
 clear hB hr hg
 go_wp2_with fail
 refine (takes.calls g newRun t _ (HK.out.below HB.out) HR.out (by show 0 + t.size ≤ _; omega)).mono ?_
 rintro e w2 ⟨rfl, hr2, hb2⟩
 have HB2 := aM' (HB.out.grown hb2 HB.out.size (fun k e => by cases e; exact HG.out))
 have HR2 := aM' hr2
 clear hr2 hb2
 obtain ⟨s1, s2⟩ := takeI_small newRun t (by decide)
 have r1 : 0 ≤ (takeI newRun t).n := by rw [s2]; exact (u64_wrap_range _).1
 have r2 : (takeI newRun t).n < 18446744073709551616 := by rw [s2]; exact (u64_wrap_range _).2
 go_wp2_with fail
 refine (sum_run.calls g (takeI newRun t) _ (HK.out.below HB2.out) HR2.out r1 r2 s1).mono ?_
 rintro e w3 ⟨rfl, hB3⟩
 go_wp2
 go_ret
 exact ⟨rfl, HB2.out.trans (hB3.mono HB2.out.size)⟩
end Go.Proofs.YtijfifphcchbbaaDoor.P
namespace Go.Proofs.YtijfifphcchbbaaDoor.P
open Go.RowKit Go.Proofs.YtijfifphcchbbaaDoorW.PrintWords Go.Proofs.YtijfifphcchbbaaDoorW.PrintLast Go.Proofs.YtijfifphcchbbaaDoorW.PrintMore
set_option linter.unusedVariables false
set_option linter.unusedSimpArgs false
set_option linter.unnecessarySimpa false
theorem wrap64_id {x : Int} (h0 : -9223372036854775808 ≤ x) (h1 : x ≤ 9223372036854775807) : wrap64 x = x := by unfold wrap64; omega
theorem wrapu64_id {x : Int} (h0 : 0 ≤ x) (h1 : x < 18446744073709551616) : IntKind.u64.wrap x = x := by
 rw [IntKind.wrap_u64]; exact Int.emod_eq_of_lt h0 h1
theorem wf_u8 {n : Int} (h : (Lit.int .u8 n).wf = true) : 0 ≤ n ∧ n < 256 := by
 simp [Lit.wf, IntKind.min, IntKind.max, IntKind.bits, IntKind.signed] at h; omega
theorem Ev.some_ {α : Type} {g : Nat → Option α} {r : α} (h : ∀ k, g k = some r) : Ev g r := ⟨0, fun k _ => h k⟩
theorem ev_eq {α : Type} {g : Nat → Option α} {r r' : α} (h : Ev g r) (e : r = r') : Ev g r' := e ▸ h
end Go.Proofs.YtijfifphcchbbaaDoor.P
namespace Go.Proofs.YtijfifphcchbbaaDoor.P
open Go.RowKit Go.Proofs.YtijfifphcchbbaaDoorW.PrintWords Go.Proofs.YtijfifphcchbbaaDoorW.PrintLast Go.Proofs.YtijfifphcchbbaaDoorW.PrintMore
set_option linter.unusedVariables false
set_option linter.unusedSimpArgs false
set_option linter.unnecessarySimpa false
theorem u64_range (x : Int) : 0 ≤ IntKind.u64.wrap x ∧ IntKind.u64.wrap x < 18446744073709551616 := by rw [IntKind.wrap_u64]; omega
theorem padI_nums (n : Int) : padI n = strOfNums (128 :: (List.replicate (padZ n) 0 ++ (List.range 8).map (padB n))) := by
 simp only [padI, padL, strOfNums, List.map_cons, List.map_append, List.map_replicate, List.map_map]
 rfl
theorem refPad_l1_step {x3 x5 : List Int} {x4 : Int} {i : Int} {r : ByteArray} (h0 : 0 ≤ x4) (h1 : x4 < 18446744073709551616) (hi : 0 ≤ i ∧ i < 8) (hl : x5.length < 1000)
  (h : Ev (fun k => paymasterref05_Padding.l1 k x3 (x4 / 256) (x4 % 256 :: x5) (i + 1)) r) : Ev (fun k => paymasterref05_Padding.l1 k x3 x4 x5 i) r := by
 refine Ev.step (f := fun k => paymasterref05_Padding.l1 k x3 (x4 / 256) (x4 % 256 :: x5) (i + 1)) (fun k => ?_) h
 have e1 : Int.tmod x4 256 = x4 % 256 := Int.tmod_eq_emod_of_nonneg h0
 have e2 : Int.tdiv x4 256 = x4 / 256 := Int.tdiv_eq_ediv_of_nonneg h0
 rw [paymasterref05_Padding.l1, if_pos hi.2]
 simp only [Option.bind_some, e1, e2]
 rw [if_pos (by simp; omega), wrap64_id (by omega) (by omega), wrapu64_id (by omega) (by omega)]
 congr 1
 simp
theorem refPad_l1_done {x3 x5 : List Int} {x4 : Int} (hl : x3.length + x5.length < 140737488355328) : Ev (fun k => paymasterref05_Padding.l1 k x3 x4 x5 8) (strOfNums (x3 ++ x5)) := by
 refine Ev.step (f := fun _ => some (strOfNums (x3 ++ x5))) (fun k => ?_) (Ev.now _)
 rw [paymasterref05_Padding.l1, if_neg (by decide), if_pos hl]
theorem refPad_l1 {x3 : List Int} {m : Int} (h0 : 0 ≤ m) (h1 : m < 18446744073709551616) (hl : x3.length < 1000) :
  Ev (fun k => paymasterref05_Padding.l1 k x3 m [] 0) (strOfNums (x3 ++ (List.range 8).map fun i => m / 2 ^ (56 - 8 * i) % 256)) := by
 have hd : ∀ x : Int, 0 ≤ x → 0 ≤ x / 256 ∧ x / 256 ≤ x := fun x h => by omega
 obtain ⟨a1, b1⟩ := hd m h0
 obtain ⟨a2, b2⟩ := hd _ a1
 obtain ⟨a3, b3⟩ := hd _ a2
 obtain ⟨a4, b4⟩ := hd _ a3
 obtain ⟨a5, b5⟩ := hd _ a4
 obtain ⟨a6, b6⟩ := hd _ a5
 obtain ⟨a7, b7⟩ := hd _ a6
 refine refPad_l1_step h0 h1 (by omega) (by simp) ?_
 refine refPad_l1_step a1 (by omega) (by omega) (by simp) ?_
 refine refPad_l1_step a2 (by omega) (by omega) (by simp) ?_
 refine refPad_l1_step a3 (by omega) (by omega) (by simp) ?_
 refine refPad_l1_step a4 (by omega) (by omega) (by simp) ?_
 refine refPad_l1_step a5 (by omega) (by omega) (by simp) ?_
 refine refPad_l1_step a6 (by omega) (by omega) (by simp) ?_
 refine refPad_l1_step a7 (by omega) (by omega) (by simp) ?_
 refine ev_eq (refPad_l1_done (by simp; omega)) ?_
 congr 1
 simp only [List.range, List.range.loop, List.map_cons, List.map_nil]
 congr 1
 simp only [List.cons.injEq, and_true]
 refine ⟨?_, ?_, ?_, ?_, ?_, ?_, ?_, ?_⟩ <;> (simp only [Nat.reduceMul, Nat.reduceSub]; omega)
theorem refPad_l0 (n : Int) (h0 : 0 ≤ n) (h1 : n < 18446744073709551616) : ∀ (d j : Nat), d + j = padZ n →
  Ev (fun k => paymasterref05_Padding.l0 k n (128 :: List.replicate j 0)) (padI n)
 | 0, j, h => by
  have hz : ((padZ n : Nat) : Int) = (119 - n) % 64 := by simp only [padZ]; omega
  refine Ev.step (f := fun k => paymasterref05_Padding.l1 k (128 :: List.replicate j 0) (IntKind.u64.wrap (n * 8)) [] 0) (fun k => ?_) ?_
  ·
   rw [paymasterref05_Padding.l0, if_pos]
   simp only [List.length_cons, List.length_replicate]
   rw [IntKind.wrap_u64, IntKind.wrap_u64, Int.tmod_eq_emod_of_nonneg (by omega)]
   omega
  ·
   have hm := u64_range (n * 8)
   refine ev_eq (refPad_l1 hm.1 hm.2 (by simp; omega)) ?_
   rw [padI_nums]
   obtain rfl : j = padZ n := by omega
   rfl
 | d + 1, j, h => by
  have hz : ((padZ n : Nat) : Int) = (119 - n) % 64 := by simp only [padZ]; omega
  refine Ev.step (f := fun k => paymasterref05_Padding.l0 k n (128 :: List.replicate (j + 1) 0)) (fun k => ?_) (refPad_l0 n h0 h1 d (j + 1) (by omega))
  rw [paymasterref05_Padding.l0, if_neg, if_pos]
  ·
   congr 1
   simp [List.replicate_succ']
  ·
   simp; omega
  ·
   simp only [List.length_cons, List.length_replicate]
   rw [IntKind.wrap_u64, IntKind.wrap_u64, Int.tmod_eq_emod_of_nonneg (by omega)]
   omega
theorem refPad (n : Int) (h0 : 0 ≤ n) (h1 : n < 18446744073709551616) : Ev (fun k => paymasterref05_Padding.f k n) (padI n) := refPad_l0 n h0 h1 (padZ n) 0 rfl
theorem toList_data (b : ByteArray) : b.toList = b.data.toList := by
 obtain ⟨⟨l⟩⟩ := b
 exact ByteArray.toList_mk l
theorem toList_inj {a b : ByteArray} (h : a.toList = b.toList) : a = b := by
 rw [toList_data, toList_data] at h
 exact ByteArray.ext (Array.toList_inj.1 h)
end Go.Proofs.YtijfifphcchbbaaDoor.P
namespace Go.Proofs.YtijfifphcchbbaaDoor.P
open Go.RowKit Go.Proofs.YtijfifphcchbbaaDoorW.PrintWords Go.Proofs.YtijfifphcchbbaaDoorW.PrintLast Go.Proofs.YtijfifphcchbbaaDoorW.PrintMore
set_option linter.unusedVariables false
set_option linter.unusedSimpArgs false
set_option linter.unnecessarySimpa false
theorem table.calls (w : World) : Calls Tryd.prog 142 #[] w fun e w' => e = .returned (.slice (some ⟨w.heap.size, 0, none⟩) 64 64) ∧ (∀ i, i < 64 → w'.cell? ⟨w.heap.size, i, none⟩ = some (.int .u32 (kConst.getD i 0))) ∧ Below w.heap.size w w' := by
 go_enter Tryd.func142, Tryd.ntmps142
 go_wp2_with fail
 go_ret
 refine ⟨rfl, fun i hi => ?_, below_alloc (Below.refl _ _) _⟩
 rw [blk_cell (blk_new w _) i]
 show ((nums .u32 kConst).toArray)[i]? = _
 have hl : kConst.length = 64 := rfl
 simp [nums, hl, hi]
theorem start.calls (w : World) : Calls Tryd.prog 143 #[] w fun e w' => e = .returned (stV firstI) ∧ Below w.heap.size w w' := by
 have hu := Tryd.underlying211
 go_enter Tryd.func143, Tryd.ntmps143
 go_wp2_with fail
 refine bodyPost_ret (v := stV firstI) ?_ rfl ⟨rfl, ?_⟩
 ·
  simp [results, Tryd.results143, go_sem, firstI]
 ·
  repeat (with_reducible first | exact Below.refl _ _ | apply below_alloc | refine below_set ?_ (Nat.le_refl _))
def chainI (s : S8) (t : ByteArray) : Nat → S8
 | 0 => s
 | n + 1 => nextI (chainI s t n) (t.extract (64 * n) (64 * n + 64))
def refSumI (t : ByteArray) : ByteArray := digestI (chainI firstI (t ++ padI t.size) ((t ++ padI t.size).size / 64))
theorem nextI_ok (s : S8) (b : ByteArray) : (nextI s b).Ok := S8.Ok.add _ _
theorem firstI_ok : firstI.Ok := by constructor <;> decide
theorem chainI_ok (t : ByteArray) : ∀ n, (chainI firstI t n).Ok
 | 0 => firstI_ok
 | _ + 1 => nextI_ok _ _
theorem S8.Ok.get {s : S8} (h : s.Ok) (i : Nat) : 0 ≤ s.get i ∧ s.get i < 4294967296 := by
 match i with
 | 0 => exact h.h0
 | 1 => exact h.h1
 | 2 => exact h.h2
 | 3 => exact h.h3
 | 4 => exact h.h4
 | 5 => exact h.h5
 | 6 => exact h.h6
 | n + 7 => exact h.h7
set_option maxRecDepth 100000 in
set_option maxHeartbeats 8000000 in
theorem refsum.calls (t : ByteArray) (w : World) (ht : t.size ≤ 1000000000) :
  Calls Tryd.prog 110 #[.string t] w fun e w' => e = .returned (.string (refSumI t)) ∧ Below w.heap.size w w' := by
 have hu := Tryd.underlying211
 obtain ⟨i0, hi, hz0, hz1, hz2⟩ := info_parts byteInfo
 obtain ⟨kp, hkp⟩ := (refPad (t.size : Int) (by omega) (by omega)).rounds
 have e1 : IntKind.u64.wrap (t.size : Int) = (t.size : Int) := by rw [IntKind.wrap_u64]; omega
 have HKP := aM' hkp
 have hps : (padI (t.size : Int)).size ≤ 72 := by rw [padI_size]; unfold padZ; omega
 have hcat : t.size + (padI (t.size : Int)).size ≤ 9223372036854775807 := by omega
 clear hkp
 go_enter Tryd.func110, Tryd.ntmps110
 go_wp2_with fail
 refine (paymasterref05_Padding.calls kp _ _ _ HKP.out).mono ?_
 rintro e w1 ⟨rfl, hB1⟩
 have HB1 := aM' hB1
 clear hB1 e1
 go_wp2_with fail
 refine (table.calls _).mono ?_
 rintro e w2 ⟨rfl, htb, hB2⟩
 have HT := aM' htb
 have HB2 := aM' (HB1.out.trans (hB2.mono HB1.out.size))
 have HTL := aM' (show w1.heap.size < w2.heap.size from cellAt_lt (htb 0 (by omega)))
 clear htb hB2
 go_wp2_with fail
 refine (start.calls _).mono ?_
 rintro e w3 ⟨rfl, hB3⟩
 have HB3 := aM' (HB2.out.trans (hB3.mono HB2.out.size))
 have HB23 := aM' hB3
 clear hB3
 have hf1 : firstI = ⟨firstI.x0, firstI.x1, firstI.x2, firstI.x3, firstI.x4, firstI.x5, firstI.x6, firstI.x7⟩ := rfl
 go_wp2_with fail
 clear hf1
 obtain ⟨al, hal⟩ : ∃ al, al = t ++ padI (t.size : Int) := ⟨_, rfl⟩
 have has : al.size = t.size + (padI (t.size : Int)).size := by rw [hal]; exact ByteArray.size_append
 have has2 : al.size ≤ 1000000072 := by omega
 rw [← hal]
 have HAL := aM' hal
 have HTab := aM' (show ∀ W, Below w3.heap.size w3 W → ∀ i, i < 64 → W.cell? ⟨w1.heap.size, i, none⟩ = some (.int .u32 (kConst.getD i 0)) from fun W hW i hi =>
  pw_cell_below hW (pw_cell_below HB23.out (HT.out i hi)))
 have HN3 := aM' (show w.heap.size ≤ w3.heap.size from HB3.out.size)
 clear hal has hcat hps
 go_loopw [6] (fun v wr => ∃ k : Nat, v = .int .i64 (64 * (k : Int)) ∧ k ≤ al.size / 64 ∧ Aside0 (wr.heap[w3.heap.size]? = some (.cells (stA (chainI firstI al k)) 211 (0, 0))) ∧ Aside0 (Below w3.heap.size w3 wr)) (fun v _ => al.size - (intOf v).toNat)
 case atStart => exact ⟨0, rfl, by omega, ⟨blk_new w3 _⟩, ⟨below_alloc (Below.refl _ _) _⟩⟩
 case round =>
  obtain ⟨k, rfl, hk, HC, HB⟩ := hrel
  by_cases hlt : k < al.size / 64
  ·
   have b1 : decide (64 * (k : Int) + 64 ≤ (al.size : Int)) = true := decide_eq_true (by omega)
   have g1 : 64 * (k : Int) + 64 ≤ (al.size : Int) := by omega
   obtain ⟨c0, c1, c2, c3, c4, c5, c6, c7⟩ := st_cells HC.out
   have hok := chainI_ok al k
   have hbs : (al.extract (64 * k) (64 * k + 64)).size = 64 := by rw [ByteArray.size_extract]; omega
   have hsl : ∀ wx, (Instr.slice 9 (.string al) (some (.int .i64 (64 * (k : Int)))) (some (.int .i64 (64 * (k : Int) + 64))) none).run Tryd.prog wx = .ok (.string (al.extract (64 * k) (64 * k + 64))) wx := fun wx => by
    rw [run_slice_string wx 9 al .i64 .i64 (64 * (k : Int)) (64 * (k : Int) + 64) Tryd.underlying9 (by omega) (by omega) g1]
    congr 3
   have hk1 : chainI firstI al (k + 1) = nextI (chainI firstI al k) (al.extract (64 * k) (64 * k + 64)) := rfl
   have HK1 := aM' hk1
   have HOK := aM' hok
   have HBS := aM' hbs
   generalize al.extract (64 * k) (64 * k + 64) = bb at hsl HK1 HBS
   have e1 : IntKind.i64.wrap (64 * (k : Int) + 64) = 64 * (k : Int) + 64 := IntWalk.i64_in _ (by omega)
   have hd : ∀ a, ({ wr with drawn := wr.drawn + 1 } : World).cell? a = wr.cell? a := fun _ => rfl
   clear hk1 hok hbs
   go_wp2_with fail
   go_still_tail 7, (by kernel_rfl)
   change wpList _ _ _ _ _ wr.drew
   clear hsl e1 hd c0 c1 c2 c3 c4 c5 c6 c7
   go_wp2_with fail
   refine (quick.calls (chainI firstI al k) bb HOK.out HBS.out w1.heap.size wr.drew (HTab.out _ (below_drew HB.out))).mono ?_
   rintro e w4 ⟨rfl, hB4⟩
   have hC4 := blk_below (blk_drew HC.out) hB4
   obtain ⟨c0, c1, c2, c3, c4, c5, c6, c7⟩ := st_cells hC4
   have hf : ∀ i, w4.frozen? ⟨w3.heap.size, i, none⟩ = false := fun i => blk_frozen hC4 i
   have HC4 := aM' hC4
   have HB4 := aM' (HB.out.trans ((Below.drew (Below.refl _ _)).trans (hB4.mono HB.out.size)))
   rw [← HK1.out]
   obtain ⟨y, hy⟩ : ∃ y, y = chainI firstI al (k + 1) := ⟨_, rfl⟩
   rw [← hy]
   have HY := aM' hy
   clear hy
   clear hC4 hB4
   go_wp2_with fail
   go_roundw
   case rel =>
    refine ⟨k + 1, by go_num, by omega, ⟨?_⟩, ⟨?_⟩⟩
    ·
     rw [← HY.out]
     exact st_put8 HC4.out y
    ·
     repeat (with_reducible first | exact HB4.out | refine below_set ?_ (Nat.le_refl _))
   case measure => simp [intOf]; omega
  ·
   have b1 : decide (64 * (k : Int) + 64 ≤ (al.size : Int)) = false := decide_eq_false (by omega)
   have ek : k = al.size / 64 := by omega
   obtain ⟨y, hy⟩ : ∃ y, y = chainI firstI al (al.size / 64) := ⟨_, rfl⟩
   have hyk : y.Ok := by rw [hy]; exact chainI_ok _ _
   have HC2 := HC
   rw [ek, ← hy] at HC2
   have HRS := aM' (show refSumI t = digestI y by rw [refSumI, ← HAL.out, ← hy])
   have HYK := aM' hyk
   have e1 : IntKind.i64.wrap (64 * (k : Int) + 64) = 64 * (k : Int) + 64 := IntWalk.i64_in _ (by omega)
   clear ek hy hyk HC
   go_wp2_with fail
   clear b1 e1
   go_loopw [8, 7] (fun v u wr2 => ∃ j : Nat, v = .int .i64 j ∧ j ≤ 8 ∧ Aside0 (wr2.ownsRow (w3.heap.size + 1) 5 1 u (4 * j) (nums .u8 (digL y j))) ∧ Aside0 (wr2.heap[w3.heap.size]? = some (.cells (stA y) 211 (0, 0))) ∧ Aside0 (Below w3.heap.size w3 wr2)) (fun v _ _ => 8 - (intOf v).toNat)
   case atStart => exact ⟨0, rfl, by omega, ⟨⟨rfl, .inl ⟨rfl, rfl⟩⟩⟩, HC2, HB⟩
   case round =>
    clear HC2 HB
    obtain ⟨j, rfl, hj, HO, HC, HB⟩ := hrel
    by_cases hlt2 : j < 8
    ·
     have b1 : decide ((j : Int) < 8) = true := decide_eq_true (by omega)
     have g1 : (j : Int) < 8 := by omega
     obtain ⟨x, hx⟩ : ∃ x, x = y.get j := ⟨_, rfl⟩
     have hxr : 0 ≤ x ∧ x < 4294967296 := by rw [hx]; exact HYK.out.get j
     have hcx : wr.cell? ⟨w3.heap.size, j, none⟩ = some (.int .u32 x) := by
      rw [blk_cell HC.out, stA_get _ _ hlt2, hx]
     have HX := aM' hx
     obtain ⟨x0, x1⟩ := hxr
     have t1 : Int.tdiv x 16777216 = x / 16777216 := Int.tdiv_eq_ediv_of_nonneg x0
     clear hx
     have hl0 := HO.out.1
     have hlt3 : w3.heap.size < wr.heap.size := blk_lt HC.out
     have hwl : wordL x = [x / 16777216, x / 65536 % 256, x / 256 % 256, x % 256] := by simp only [wordL]; congr 1; omega
     go_wp2_with (at_builtin; refine wpList_append_own _ rfl _ _ 54 rfl (w3.heap.size + 1) 5 i0 (.int .u8 0) 1 1 Tryd.underlying54 hi hz0 hz1 hz2 rfl (by decide) _ _ _ rfl (HO.out.alloc _) ⟨wr.heap.size, 0, none⟩ 4 4 (nums .u8 [x / 16777216, x / 65536 % 256, x / 256 % 256, x % 256]) rfl rfl ?c1 ?c2 ?c3 ?c4 ?c5 ?_)
     case c1 =>
      intro j u hj
      match j, hj with
      | 0, hj => simp [nums] at hj; subst hj; simp [Addr.add]
      | 1, hj => simp [nums] at hj; subst hj; simp [Addr.add]
      | 2, hj => simp [nums] at hj; subst hj; simp [Addr.add]
      | 3, hj => simp [nums] at hj; subst hj; simp [Addr.add]
     case c2 => intro u hu; simp [nums] at hu; rcases hu with hu | hu | hu | hu <;> subst hu <;> rfl
     case c3 => unfold maxLen; omega
     case c4 => omega
     case c5 => simp; omega
     intro v' w4 hown' hgrow _
     rw [← hwl] at hown'
     have HO2 := aM' hown'
     have hC4 : w4.heap[w3.heap.size]? = some (.cells (stA y) 211 (0, 0)) := (hgrow.block _ (by simp; omega) (fun e => by have := (HO.out.lt _ e.symm).1; omega)).trans (blk_alloc HC.out _)
     have HC4 := aM' hC4
     have HB4 := aM' ((HB.out.alloc HB.out.size _).grown hgrow (by have := HB.out.size; simp; omega) (fun k hk => by have := (HO.out.lt k hk).1; omega))
     clear hown' hgrow hwl hC4 t1 hcx
     go_wp2_with fail
     go_roundw
     case rel =>
      refine ⟨j + 1, by go_num, by omega, ⟨?_⟩, HC4, HB4⟩
      rw [digL_succ, ← HX.out, nums_append]
      exact HO2.out
     case measure => simp [intOf]; omega
    ·
     have b1 : decide ((j : Int) < 8) = false := decide_eq_false (by omega)
     obtain rfl : j = 8 := by omega
     have hown := HO.out
     obtain ⟨hl, h2⟩ := hown
     rcases h2 with ⟨_, h0⟩ | ⟨g, cap, cur, rfl, e2, e3, e4, e5, e6, e7⟩
     ·
      omega
     have hcv := run_convert_bytes_arg wr 54 5 Tryd.underlying54 Tryd.underlying5 g 0 32 cap (digL y 8) (digL_length y 8) (fun i hi => by
      have h1 : (cur.toList.take (4 * 8 * 1))[i]? = some (.int .u8 ((digL y 8).getD i 0)) := by
       rw [e7]; simp [nums, digL_length, hi]
      rw [List.getElem?_take_of_lt (by omega)] at h1
      rw [Nat.zero_add, blk_cell e3 i]
      simpa using h1) 9 Tryd.underlying9
     have HB2 := HB
     clear HO e3 e7 HB
     go_wp2_with fail
     go_ret
     rw [HRS.out]
     exact ⟨rfl, HB3.out.trans (HB2.out.mono HN3.out)⟩
end Go.Proofs.YtijfifphcchbbaaDoor.P
namespace Go.Proofs.YtijfifphcchbbaaDoor.P
open Go.RowKit Go.Proofs.YtijfifphcchbbaaDoorW.PrintWords Go.Proofs.YtijfifphcchbbaaDoorW.PrintLast Go.Proofs.YtijfifphcchbbaaDoorW.PrintMore
set_option linter.unusedVariables false
set_option linter.unusedSimpArgs false
set_option linter.unnecessarySimpa false
def sha_Sum.f (a0 : ByteArray) : Option ByteArray := if a0.size ≤ 4611686018427387904 then some (sumI a0) else none
theorem sha_Sum.calls (a0 : ByteArray) (r : ByteArray) (w : World) (hK : Laid w) (h : sha_Sum.f a0 = some r) :
  Calls Tryd.prog 106 #[.string a0] w fun e w' => e = .returned (.string r) ∧ Below w.heap.size w w' := by
 unfold sha_Sum.f at h
 split at h
 ·
  cases h; exact sum.calls a0 w hK (by assumption)
 ·
  cases h
def ref05_Sum.f (a0 : ByteArray) : Option ByteArray := if a0.size ≤ 1000000000 then some (refSumI a0) else none
theorem ref05_Sum.calls (a0 : ByteArray) (r : ByteArray) (w : World) (h : ref05_Sum.f a0 = some r) :
  Calls Tryd.prog 110 #[.string a0] w fun e w' => e = .returned (.string r) ∧ Below w.heap.size w w' := by
 unfold ref05_Sum.f at h
 split at h
 ·
  cases h; exact refsum.calls a0 w (by assumption)
 ·
  cases h
end Go.Proofs.YtijfifphcchbbaaDoor.P
namespace Go.Proofs.YtijfifphcchbbaaDoor.P
open Go.RowKit Go.Proofs.YtijfifphcchbbaaDoorW.PrintWords Go.Proofs.YtijfifphcchbbaaDoorW.PrintLast Go.Proofs.YtijfifphcchbbaaDoorW.PrintMore
attribute [local go_sem] max2_int min2_int max_two min_two max_three min_three max_four min_four-- for this text's walks alone
set_option linter.unusedVariables false
set_option linter.unusedSimpArgs false
def paymasterref07_Digest.f (a0 : Int) (a1 : ByteArray) : Option (ByteArray) := (paymasterref07_MayWidth.f a0).bind fun t104 => (if t104 = true then ((ref05_Sum.f a1).bind fun t105 => (if 0 ≤ a0 then (if a0 ≤ (t105.size : Int) then (some (t105.extract 0 (a0 : Int).toNat)) else (none)) else (none))) else (some (⟨#[]⟩ : ByteArray)))
set_option maxHeartbeats 8000000 in
set_option maxRecDepth 100000 in
theorem paymasterref07_Digest.calls (a0 : Int) (a1 : ByteArray) (r : ByteArray) (w : World) (h : paymasterref07_Digest.f a0 a1 = some r) :
  Calls Tryd.prog 67 #[.int .i64 a0, .string a1] w fun e w' => e = .returned (.string r) ∧ Below w.heap.size w w' := by
 have HB := aM' (Below.refl w.heap.size w)
 have H : ((paymasterref07_MayWidth.f a0).bind fun t104 => (if t104 = true then ((ref05_Sum.f a1).bind fun t105 => (if 0 ≤ a0 then (if a0 ≤ (t105.size : Int) then (some (t105.extract 0 (a0 : Int).toNat)) else (none)) else (none))) else (some (⟨#[]⟩ : ByteArray)))) = some r := h
 clear h
 replace H := Option.bind_eq_some_iff.mp H
 obtain ⟨t104, A30, H⟩ := H
 replace H : (if t104 = true then ((ref05_Sum.f a1).bind fun t105 => (if 0 ≤ a0 then (if a0 ≤ (t105.size : Int) then (some (t105.extract 0 (a0 : Int).toNat)) else (none)) else (none))) else (some (⟨#[]⟩ : ByteArray))) = some r := H
 have A3 := aM' A30
 clear A30
 by_cases c4 : t104 = true
 ·
  subst c4
  have H1 : ((ref05_Sum.f a1).bind fun t105 => (if 0 ≤ a0 then (if a0 ≤ (t105.size : Int) then (some (t105.extract 0 (a0 : Int).toNat)) else (none)) else (none))) = some r := by rw [if_pos rfl] at H; exact H
  clear H
  have H := H1
  clear H1
  replace H := Option.bind_eq_some_iff.mp H
  obtain ⟨t105, A50, H⟩ := H
  replace H : (if 0 ≤ a0 then (if a0 ≤ (t105.size : Int) then (some (t105.extract 0 (a0 : Int).toNat)) else (none)) else (none)) = some r := H
  have A5 := aM' A50
  clear A50
  by_cases c6 : 0 ≤ a0
  ·
   rw [if_pos c6] at H
   have c6b0 := eq_true c6
   have c6b1 : decide (0 ≤ a0) = true := decide_eq_true c6
   clear c6
   by_cases c7 : a0 ≤ (t105.size : Int)
   ·
    rw [if_pos c7] at H
    have c7b0 := eq_true c7
    have c7b1 : decide (a0 ≤ (t105.size : Int)) = true := decide_eq_true c7
    clear c7
    obtain rfl := Option.some.inj H
    go_enter Tryd.func67, Tryd.ntmps67
    go_wp2_with (first | ((with_reducible refine gate_callee (f := 109) rfl ?_); refine goesL_ (some 6) rfl rfl Tryd.func109 (by kernel_rfl) rfl #[.int .i64 a0] rfl (by (try simp only [List.map_toArray, List.map_cons, List.map_nil]); first | done | rfl | (simp only [List.length_drop, List.length_take]; rfl)) ?_; (with_reducible refine (paymasterref07_MayWidth.calls a0 true _ A3.out).mono ?_); rintro e w' ⟨rfl, ⟨nd, rfl⟩⟩; refine ⟨_, rfl, ?_⟩) | ((with_reducible refine gate_callee (f := 110) rfl ?_); refine goesL_ (some 9) rfl rfl Tryd.func110 (by kernel_rfl) rfl #[.string a1] rfl (by (try simp only [List.map_toArray, List.map_cons, List.map_nil]); first | done | rfl | (simp only [List.length_drop, List.length_take]; rfl)) ?_; (with_reducible refine (ref05_Sum.calls a1 t105 _ A5.out).mono ?_); rintro e w8 ⟨rfl, hb⟩; refine ⟨_, rfl, ?_⟩; have n0_ := aM' (below_step (by repeat (first | (with_reducible first | exact HB.out | apply below_alloc | apply pw_below_drewN | apply below_drew1) | exact HB.out)) hb); clear HB; have HB := n0_; clear n0_; (try clear hb); (try clear hb2); (try clear hk); (try clear hi)))
    go_ret
    exact ⟨by first | rfl | (simp [errW_none, errW_some] <;> rfl) | (simp [*, errW_none, errW_some] <;> rfl), by repeat (first | (with_reducible first | exact HB.out | apply below_alloc | apply pw_below_drewN | apply below_drew1) | exact HB.out)⟩
   ·
    rw [if_neg c7] at H
    exact absurd H (by simp)
  ·
   rw [if_neg c6] at H
   exact absurd H (by simp)
 ·
  replace c4 := Bool.eq_false_iff.mpr c4
  subst c4
  have H1 : (some (⟨#[]⟩ : ByteArray)) = some r := by rw [if_neg (show ¬ (false = true) by decide)] at H; exact H
  clear H
  have H := H1
  clear H1
  obtain rfl := Option.some.inj H
  go_enter Tryd.func67, Tryd.ntmps67
  go_wp2_with (first | ((with_reducible refine gate_callee (f := 109) rfl ?_); refine goesL_ (some 6) rfl rfl Tryd.func109 (by kernel_rfl) rfl #[.int .i64 a0] rfl (by (try simp only [List.map_toArray, List.map_cons, List.map_nil]); first | done | rfl | (simp only [List.length_drop, List.length_take]; rfl)) ?_; (with_reducible refine (paymasterref07_MayWidth.calls a0 false _ A3.out).mono ?_); rintro e w' ⟨rfl, ⟨nd, rfl⟩⟩; refine ⟨_, rfl, ?_⟩))
  go_ret
  exact ⟨by first | rfl | (simp [errW_none, errW_some] <;> rfl) | (simp [*, errW_none, errW_some] <;> rfl), by repeat (first | (with_reducible first | exact HB.out | apply below_alloc | apply pw_below_drewN | apply below_drew1) | exact HB.out)⟩
def paymasterref14_Join.T6 : Bool × List (List Nat × List Nat) := (true, [([], []), ([], []), ([], []), ([1, 2], [1, 2]), ([0, 3, 3], [0, 3]), ([], []), ([4, 5], [4, 5]), ([6, 4, 0, 1, 2, 3, 4, 5, 6], [6]), ([7, 0, 1, 2, 3, 4, 5, 6, 7], [])])
def paymasterref14_Join.B6 : List Nat := [0, 0, 0, 6, 15, 0, 63, 127, 255]
theorem paymasterref14_Join.tab6 : rtab .any (opsOf Tryd.f60 6) = paymasterref14_Join.T6 := by kernel_rfl
theorem paymasterref14_Join.bits6 : waitsOk paymasterref14_Join.T6.2 paymasterref14_Join.B6 = true := by kernel_rfl
def tag_Digest.f (a0 : Int) (a1 : ByteArray) : Option (ByteArray) := (tag_MayWidth.f a0).bind fun t168 => (if t168 = true then ((sha_Sum.f a1).bind fun t169 => (if 0 ≤ a0 then (if a0 ≤ (t169.size : Int) then (some (t169.extract 0 (a0 : Int).toNat)) else (none)) else (none))) else (some (⟨#[]⟩ : ByteArray)))
set_option maxHeartbeats 8000000 in
set_option maxRecDepth 100000 in
theorem tag_Digest.calls (a0 : Int) (a1 : ByteArray) (r : ByteArray) (w : World) (hK : Laid w) (h : tag_Digest.f a0 a1 = some r) :
  Calls Tryd.prog 63 #[.int .i64 a0, .string a1] w fun e w' => e = .returned (.string r) ∧ Below w.heap.size w w' := by
 have HB := aM' (Below.refl w.heap.size w)
 have HLD := aM' hK
 clear hK
 have H : ((tag_MayWidth.f a0).bind fun t168 => (if t168 = true then ((sha_Sum.f a1).bind fun t169 => (if 0 ≤ a0 then (if a0 ≤ (t169.size : Int) then (some (t169.extract 0 (a0 : Int).toNat)) else (none)) else (none))) else (some (⟨#[]⟩ : ByteArray)))) = some r := h
 clear h
 replace H := Option.bind_eq_some_iff.mp H
 obtain ⟨t168, A30, H⟩ := H
 replace H : (if t168 = true then ((sha_Sum.f a1).bind fun t169 => (if 0 ≤ a0 then (if a0 ≤ (t169.size : Int) then (some (t169.extract 0 (a0 : Int).toNat)) else (none)) else (none))) else (some (⟨#[]⟩ : ByteArray))) = some r := H
 have A3 := aM' A30
 clear A30
 by_cases c4 : t168 = true
 ·
  subst c4
  have H1 : ((sha_Sum.f a1).bind fun t169 => (if 0 ≤ a0 then (if a0 ≤ (t169.size : Int) then (some (t169.extract 0 (a0 : Int).toNat)) else (none)) else (none))) = some r := by rw [if_pos rfl] at H; exact H
  clear H
  have H := H1
  clear H1
  replace H := Option.bind_eq_some_iff.mp H
  obtain ⟨t169, A50, H⟩ := H
  replace H : (if 0 ≤ a0 then (if a0 ≤ (t169.size : Int) then (some (t169.extract 0 (a0 : Int).toNat)) else (none)) else (none)) = some r := H
  have A5 := aM' A50
  clear A50
  by_cases c6 : 0 ≤ a0
  ·
   rw [if_pos c6] at H
   have c6b0 := eq_true c6
   have c6b1 : decide (0 ≤ a0) = true := decide_eq_true c6
   clear c6
   by_cases c7 : a0 ≤ (t169.size : Int)
   ·
    rw [if_pos c7] at H
    have c7b0 := eq_true c7
    have c7b1 : decide (a0 ≤ (t169.size : Int)) = true := decide_eq_true c7
    clear c7
    obtain rfl := Option.some.inj H
    go_enter Tryd.func63, Tryd.ntmps63
    go_wp2_with (first | ((with_reducible refine gate_callee (f := 105) rfl ?_); refine goesL_ (some 6) rfl rfl Tryd.func105 (by kernel_rfl) rfl #[.int .i64 a0] rfl (by (try simp only [List.map_toArray, List.map_cons, List.map_nil]); first | done | rfl | (simp only [List.length_drop, List.length_take]; rfl)) ?_; (with_reducible refine (tag_MayWidth.calls a0 true _ A3.out).mono ?_); rintro e w' ⟨rfl, ⟨nd, rfl⟩⟩; refine ⟨_, rfl, ?_⟩) | ((with_reducible refine gate_callee (f := 106) rfl ?_); refine goesL_ (some 9) rfl rfl Tryd.func106 (by kernel_rfl) rfl #[.string a1] rfl (by (try simp only [List.map_toArray, List.map_cons, List.map_nil]); first | done | rfl | (simp only [List.length_drop, List.length_take]; rfl)) ?_; (with_reducible refine (sha_Sum.calls a1 t169 _ ?side1 A5.out).mono ?_); (case side1 => exact Laid.below HLD.out (by repeat (first | (with_reducible first | exact HB.out | apply below_alloc | apply pw_below_drewN | apply below_drew1) | exact HB.out))); rintro e w8 ⟨rfl, hb⟩; refine ⟨_, rfl, ?_⟩; have n0_ := aM' (below_step (by repeat (first | (with_reducible first | exact HB.out | apply below_alloc | apply pw_below_drewN | apply below_drew1) | exact HB.out)) hb); clear HB; have HB := n0_; clear n0_; (try clear hb); (try clear hb2); (try clear hk); (try clear hi)))
    go_ret
    exact ⟨by first | rfl | (simp [errW_none, errW_some] <;> rfl) | (simp [*, errW_none, errW_some] <;> rfl), by repeat (first | (with_reducible first | exact HB.out | apply below_alloc | apply pw_below_drewN | apply below_drew1) | exact HB.out)⟩
   ·
    rw [if_neg c7] at H
    exact absurd H (by simp)
  ·
   rw [if_neg c6] at H
   exact absurd H (by simp)
 ·
  replace c4 := Bool.eq_false_iff.mpr c4
  subst c4
  have H1 : (some (⟨#[]⟩ : ByteArray)) = some r := by rw [if_neg (show ¬ (false = true) by decide)] at H; exact H
  clear H
  have H := H1
  clear H1
  obtain rfl := Option.some.inj H
  go_enter Tryd.func63, Tryd.ntmps63
  go_wp2_with (first | ((with_reducible refine gate_callee (f := 105) rfl ?_); refine goesL_ (some 6) rfl rfl Tryd.func105 (by kernel_rfl) rfl #[.int .i64 a0] rfl (by (try simp only [List.map_toArray, List.map_cons, List.map_nil]); first | done | rfl | (simp only [List.length_drop, List.length_take]; rfl)) ?_; (with_reducible refine (tag_MayWidth.calls a0 false _ A3.out).mono ?_); rintro e w' ⟨rfl, ⟨nd, rfl⟩⟩; refine ⟨_, rfl, ?_⟩))
  go_ret
  exact ⟨by first | rfl | (simp [errW_none, errW_some] <;> rfl) | (simp [*, errW_none, errW_some] <;> rfl), by repeat (first | (with_reducible first | exact HB.out | apply below_alloc | apply pw_below_drewN | apply below_drew1) | exact HB.out)⟩
end Go.Proofs.YtijfifphcchbbaaDoor.P
namespace Go.Proofs.YtijfifphcchbbaaDoor.P
open Go.RowKit Go.Proofs.YtijfifphcchbbaaDoorW.PrintWords Go.Proofs.YtijfifphcchbbaaDoorW.PrintLast Go.Proofs.YtijfifphcchbbaaDoorW.PrintMore
attribute [local go_sem] max2_int min2_int max_two min_two max_three min_three max_four min_four-- for this text's walks alone
set_option linter.unusedVariables false
set_option linter.unusedSimpArgs false
def u128_From.l0 : Nat → ByteArray → Int → Int → Int → Option (Int × Int × Int)
 | 0, _, _, _, _ => none
 | k + 1, x0, x10, x103000, x103001 => if x10 < 8 then (if 0 ≤ x10 then (if x10 < (x0.size : Int) then (if 0 ≤ (wrap64 (x10 + 8)) then (if (wrap64 (x10 + 8)) < (x0.size : Int) then (u128_From.l0 k x0 (wrap64 (x10 + 1)) (Go.bits .or .u64 (IntKind.u64.wrap (x103000 * 256)) (IntKind.u64.wrap (bt x0 x10))) (Go.bits .or .u64 (IntKind.u64.wrap (x103001 * 256)) (IntKind.u64.wrap (bt x0 (wrap64 (x10 + 8)))))) else (none)) else (none)) else (none)) else (none)) else (some (x103000, x103001, 0))
def u128_From.f (k : Nat) (a0 : ByteArray) : Option (Int × Int × Int) := if (a0.size : Int) = 16 then (u128_From.l0 k a0 0 0 0) else (some (0, 0, 2))
def u128_From.T7 : Bool × List (List Nat × List Nat) := (true, [([], []), ([0], [0]), ([1], [1]), ([], []), ([], []), ([3, 4], [3, 4]), ([5], [5]), ([2, 6], [2, 6]), ([0, 1, 2, 3, 4, 5, 6, 7], []), ([8, 7, 0, 1, 2, 3, 4, 5, 6, 7], [7, 8])])
def u128_From.B7 : List Nat := [0, 1, 3, 0, 0, 24, 56, 127, 255, 511]
theorem u128_From.tab7 : rtab .any (opsOf Tryd.f115 7) = u128_From.T7 := by kernel_rfl
theorem u128_From.bits7 : waitsOk u128_From.T7.2 u128_From.B7 = true := by kernel_rfl
def u128_From.T8 : Bool × List (List Nat × List Nat) := (true, [([], []), ([0], [0]), ([1], [1]), ([], []), ([], []), ([4], [4]), ([3, 5], [3, 5]), ([6], [6]), ([2, 7], [2, 7]), ([0, 1, 2, 3, 4, 5, 6, 7, 8], []), ([9, 8, 0, 1, 2, 3, 4, 5, 6, 7, 8], [8, 9])])
def u128_From.B8 : List Nat := [0, 1, 3, 0, 0, 16, 56, 120, 255, 511, 1023]
theorem u128_From.tab8 : rtab .any (opsOf Tryd.f115 8) = u128_From.T8 := by kernel_rfl
theorem u128_From.bits8 : waitsOk u128_From.T8.2 u128_From.B8 = true := by kernel_rfl
set_option maxHeartbeats 8000000 in
set_option maxRecDepth 100000 in
theorem u128_From.calls (k : Nat) (a0 : ByteArray) (r1 : Int) (r2 : Int) (r3 : Int) (w : World) (h : u128_From.f k a0 = some (r1, r2, r3)) :
  Calls Tryd.prog 115 #[.string a0] w fun e w' => e = .returned (.tuple #[.agg #[.int .u64 r1, .int .u64 r2], .int .i64 r3]) ∧ Below w.heap.size w w' := by
 have hu26 := Tryd.underlying26
 have HB := aM' (Below.refl w.heap.size w)
 have H : (if (a0.size : Int) = 16 then (u128_From.l0 k a0 0 0 0) else (some (0, 0, 2))) = some (r1, r2, r3) := h
 clear h
 by_cases c2 : (a0.size : Int) = 16
 ·
  rw [if_pos c2] at H
  have c2b0 : ((a0.size : Int) == 16) = true := beq_iff_eq.mpr c2
  have c2b1 : ((a0.size : Int) != 16) = false := bne_eq_false_iff_eq.mpr c2
  clear c2
  have H' := aM' H
  clear H
  go_enter Tryd.func115, Tryd.ntmps115
  go_wp2_with (first | ((with_reducible refine gate_dst (N := 2) rfl ?_); refine box_event ?hg (N := 2) ?hd (cs := #[.int .u64 0, .int .u64 0]) (t := 26) ?hr ?_; (case hd => rfl); (case hg => rfl); (case hr => first | (go_simp; done) | (go_simp; rfl)); intro gb101 hg w3 hbox hb; have n0_ := aM' (below_step (by repeat (first | (with_reducible first | exact HB.out | apply below_alloc | apply pw_below_drewN | apply below_drew1) | exact HB.out)) hb); have n1_ := aM' (hbox); have n2_ := aM' ((by rw [hg]; exact (below_size (by repeat (first | (with_reducible first | exact HB.out | apply below_alloc | apply pw_below_drewN | apply below_drew1) | exact HB.out))) : w.heap.size ≤ gb101)); have n3_ := aM' ((by rw [hg]; exact (below_size (by repeat (first | (with_reducible first | exact HB.out | apply below_alloc | apply pw_below_drewN | apply below_drew1) | exact HB.out))) : w.heap.size ≤ gb101)); clear HB; have HB := n0_; have BK101 := n1_; have GW101 := n2_; have GE101 := n3_; clear n0_ n1_ n2_ n3_; clear hb hbox hg) | ((with_reducible refine gate_dst (N := 4) rfl ?_); refine box_event ?hg (N := 4) ?hd (cs := #[.int .u64 0, .int .u64 0]) (t := 26) ?hr ?_; (case hd => rfl); (case hg => rfl); (case hr => first | (go_simp; done) | (go_simp; rfl)); intro gb102 hg w4 hbox hb; have n0_ := aM' (blk_below (g := gb101) (o := .cells #[.int .u64 0, .int .u64 0] 26 (0, 0)) (by (with_reducible repeat (first | refine blk_drewN ?_ _ | refine blk_drew ?_ | refine blk_alloc ?_ _)); exact BK101.out) hb); have n1_ := aM' (below_step (by repeat (first | (with_reducible first | exact HB.out | apply below_alloc | apply pw_below_drewN | apply below_drew1 | refine below_set ?_ GE101.out) | exact HB.out)) hb); have n2_ := aM' (hbox); have n3_ := aM' ((by rw [hg]; exact (below_size (by repeat (first | (with_reducible first | exact HB.out | apply below_alloc | apply pw_below_drewN | apply below_drew1 | refine below_set ?_ GE101.out) | exact HB.out))) : w.heap.size ≤ gb102)); have n4_ := aM' ((by rw [hg]; exact (below_size (by repeat (first | (with_reducible first | exact HB.out | apply below_alloc | apply pw_below_drewN | apply below_drew1 | refine below_set ?_ GE101.out) | exact HB.out))) : w.heap.size ≤ gb102)); have n5_ := aM' ((by rw [hg]; exact Nat.ne_of_lt (blk_lt (g := gb101) (o := .cells #[.int .u64 0, .int .u64 0] 26 (0, 0)) (by (with_reducible repeat (first | refine blk_drewN ?_ _ | refine blk_drew ?_ | refine blk_alloc ?_ _)); exact BK101.out)) : gb101 ≠ gb102)); have n6_ := aM' ((by rw [hg]; exact Nat.ne_of_gt (blk_lt (g := gb101) (o := .cells #[.int .u64 0, .int .u64 0] 26 (0, 0)) (by (with_reducible repeat (first | refine blk_drewN ?_ _ | refine blk_drew ?_ | refine blk_alloc ?_ _)); exact BK101.out)) : gb102 ≠ gb101)); clear BK101; clear HB; have BK101 := n0_; have HB := n1_; have BK102 := n2_; have GW102 := n3_; have GE102 := n4_; have NB101_102 := n5_; have NB102_101 := n6_; clear n0_ n1_ n2_ n3_ n4_ n5_ n6_; clear hb hbox hg))
  go_loopg [10] k (fun kq v10 w' => ∃ (x10_1 : Int) (x103000_1 : Int) (x103001_1 : Int), v10 = .int .i64 x10_1 ∧ Aside0 (u128_From.l0 kq a0 x10_1 x103000_1 x103001_1 = some (r1, r2, r3)) ∧ Aside0 (kq ≤ k) ∧ Aside0 (w'.heap[gb101]? = some (.cells #[.int .u64 0, .int .u64 0] 26 (0, 0))) ∧ Aside0 (w'.heap[gb102]? = some (.cells #[.int .u64 x103000_1, .int .u64 x103001_1] 26 (0, 0))) ∧ Aside0 (Below w.heap.size w w'))
  case atStart => exact ⟨(0), (0), (0), (by first | rfl | (simp; done) | (simp [*]; done)), H', ⟨Nat.le_refl _⟩, ⟨by (with_reducible repeat (first | refine blk_drewN ?_ _ | refine blk_drew ?_ | refine blk_alloc ?_ _)); exact BK101.out⟩, ⟨by (with_reducible repeat (first | refine blk_drewN ?_ _ | refine blk_drew ?_ | refine blk_alloc ?_ _)); exact BK102.out⟩, ⟨by repeat (first | (with_reducible first | exact HB.out | apply below_alloc | apply pw_below_drewN | apply below_drew1 | refine below_set ?_ GE101.out | refine below_set ?_ GE102.out) | exact HB.out)⟩⟩
  case round =>
   clear H'
   try clear c1
   try clear c2
   try clear c2b0
   try clear c2b1
   try clear p2
   obtain ⟨x10_1, x103000_1, x103001_1, rfl, HA, HK1, BK101, BK102, HB⟩ := hrel
   cases gk with
   | zero => exact absurd HA.out (by simp [u128_From.l0])
   | succ k1 =>
    have H := HA.out
    clear HA
    simp only [u128_From.l0] at H
    by_cases c5 : x10_1 < 8
    ·
     rw [if_pos c5] at H
     have c5b0 : decide (x10_1 < 8) = true := decide_eq_true c5
     clear c5
     by_cases c6 : 0 ≤ x10_1
     ·
      rw [if_pos c6] at H
      have c6b0 : decide (0 ≤ x10_1) = true := decide_eq_true c6
      clear c6
      by_cases c7 : x10_1 < (a0.size : Int)
      ·
       rw [if_pos c7] at H
       have c7b0 : decide (x10_1 < (a0.size : Int)) = true := decide_eq_true c7
       clear c7
       obtain ⟨ji9, hji9⟩ : ∃ j_ : Int, (wrap64 (x10_1 + 8)) = j_ := ⟨_, rfl⟩
       replace H : (if 0 ≤ (ji9) then (if (ji9) < (a0.size : Int) then (u128_From.l0 k1 a0 (wrap64 (x10_1 + 1)) (Go.bits .or .u64 (IntKind.u64.wrap (x103000_1 * 256)) (IntKind.u64.wrap (bt a0 x10_1))) (Go.bits .or .u64 (IntKind.u64.wrap (x103001_1 * 256)) (IntKind.u64.wrap (bt a0 (ji9))))) else (none)) else (none)) = some (r1, r2, r3) := by first | (rw [hji9] at H; exact H) | (simp only [hji9] at H ⊢; exact H)
       have hji9w : (IntKind.i64.wrap (x10_1 + 8)) = ji9 := (i64_w _).trans hji9
       by_cases c10 : 0 ≤ (ji9)
       ·
        rw [if_pos c10] at H
        have c10b0 : decide (0 ≤ (ji9)) = true := decide_eq_true c10
        clear c10
        by_cases c11 : (ji9) < (a0.size : Int)
        ·
         rw [if_pos c11] at H
         have c11b0 : decide ((ji9) < (a0.size : Int)) = true := decide_eq_true c11
         clear c11
         have H' := aM' H
         clear H
         try go_wp2
         have n0_ := aM' (blk_drew BK101.out)
         have n1_ := aM' (blk_drew BK102.out)
         have n2_ := aM' (below_drew1 HB.out)
         clear BK101
         clear BK102
         clear HB
         have BK101 := n0_
         have BK102 := n1_
         have HB := n2_
         clear n0_ n1_ n2_
         have p8 : 0 ≤ (x10_1 : Int) := of_decide_eq_true (by first | (with_reducible assumption) | assumption)
         have q8 : x10_1 < (a0.size : Int) := of_decide_eq_true (by first | (with_reducible assumption) | assumption)
         have hx8 := bt_at a0 x10_1
         replace p8 := eq_true p8
         replace q8 := eq_true q8
         refine start_ (n := 10) (S := fun w' => w'.cell? ⟨gb102, 0, none⟩ = some (.int .u64 x103000_1) ∧ w'.cell? ⟨gb102, 1, none⟩ = some (.int .u64 x103001_1)) (ds := [9]) #[false, false, false, false, false, false, false, false, false, false] (by kernel_rfl) rfl rfl ⟨(blk_cell BK102.out 0).trans rfl, (blk_cell BK102.out 1).trans rfl⟩ (fun hHeld => ?_); refine with_tabW u128_From.tab7 u128_From.bits7 (fun HT_ HW_ => ?_)
         generalize wr.drew = w13 at BK101 BK102 HB hHeld ⊢
         refine pure_ (i := 0) (N := some 13) (v := ?_) (a' := ?_) #[true, false, false, false, false, false, false, false, false, false] rfl rfl (any_of HT_.out (by kernel_rfl)) (fun _ _ _ h => h) (Or.inl ⟨by rfl, ?_⟩) ?_ ?_
         rotate_left
         ·
          intro w'
          go_simp
          with_reducible rfl
         rotate_left
         ·
          simp only [Act.put, List.setIfInBounds_toArray, List.set_cons_zero, List.set_cons_succ, i64_w, i32_w]
          rfl
         refine pure_ (i := 3) (N := some 16) (v := ?_) (a' := ?_) #[true, false, false, true, false, false, false, false, false, false] rfl rfl (any_of HT_.out (by kernel_rfl)) (fun _ _ _ h => h) (Or.inl ⟨by rfl, ?_⟩) ?_ ?_
         rotate_left
         ·
          intro w'
          go_simp
          with_reducible rfl
         rotate_left
         ·
          simp only [Act.put, List.setIfInBounds_toArray, List.set_cons_zero, List.set_cons_succ, i64_w, i32_w]
          rfl
         refine pure_ (i := 4) (N := some 17) (v := ?_) (a' := ?_) #[true, false, false, true, true, false, false, false, false, false] rfl rfl (any_of HT_.out (by kernel_rfl)) (fun _ _ _ h => h) (Or.inl ⟨by rfl, ?_⟩) ?_ ?_
         rotate_left
         ·
          intro w'
          go_simp
          with_reducible rfl
         rotate_left
         ·
          simp only [Act.put, List.setIfInBounds_toArray, List.set_cons_zero, List.set_cons_succ, i64_w, i32_w]
          rfl
         refine take_ (i := 1) (N := some 14) (v := ?_) (a' := ?_) #[true, true, false, true, true, false, false, false, false, false] rfl rfl (take_ofW HT_.out HW_.out (by kernel_rfl)) (fun _ _ _ h => h) (Or.inl ⟨by rfl, ?_⟩) hHeld ?_ ?_
         rotate_left
         ·
          rintro w' ⟨s0, s1⟩
          go_simp
          with_reducible rfl
         rotate_left
         ·
          simp only [Act.put, List.setIfInBounds_toArray, List.set_cons_zero, List.set_cons_succ, i64_w, i32_w]
          rfl
         refine pure_ (i := 2) (N := some 15) (v := ?_) (a' := ?_) #[true, true, true, true, true, false, false, false, false, false] rfl rfl (any_of HT_.out (by kernel_rfl)) (fun _ _ _ h => h) (Or.inl ⟨by rfl, ?_⟩) ?_ ?_
         rotate_left
         ·
          intro w'
          go_simp
          with_reducible rfl
         rotate_left
         ·
          simp only [Act.put, List.setIfInBounds_toArray, List.set_cons_zero, List.set_cons_succ, i64_w, i32_w]
          rfl
         refine take_ (i := 5) (N := some 18) (v := ?_) (a' := ?_) #[true, true, true, true, true, true, false, false, false, false] rfl rfl (take_ofW HT_.out HW_.out (by kernel_rfl)) (fun _ _ _ h => h) (Or.inl ⟨by rfl, ?_⟩) hHeld ?_ ?_
         rotate_left
         ·
          rintro w' ⟨s0, s1⟩
          go_simp
          with_reducible rfl
         rotate_left
         ·
          simp only [Act.put, List.setIfInBounds_toArray, List.set_cons_zero, List.set_cons_succ, i64_w, i32_w]
          rfl
         refine pure_ (i := 6) (N := some 19) (v := ?_) (a' := ?_) #[true, true, true, true, true, true, true, false, false, false] rfl rfl (any_of HT_.out (by kernel_rfl)) (fun _ _ _ h => h) (Or.inl ⟨by rfl, ?_⟩) ?_ ?_
         rotate_left
         ·
          intro w'
          go_simp
          with_reducible rfl
         rotate_left
         ·
          simp only [Act.put, List.setIfInBounds_toArray, List.set_cons_zero, List.set_cons_succ, i64_w, i32_w]
          rfl
         refine pure_ (i := 7) (N := some 20) (v := ?_) (a' := ?_) #[true, true, true, true, true, true, true, true, false, false] rfl rfl (any_of HT_.out (by kernel_rfl)) (fun _ _ _ h => h) (Or.inl ⟨by rfl, ?_⟩) ?_ ?_
         rotate_left
         ·
          intro w'
          go_simp
          with_reducible rfl
         rotate_left
         ·
          simp only [Act.put, List.setIfInBounds_toArray, List.set_cons_zero, List.set_cons_succ, i64_w, i32_w]
          rfl
         refine pure_ (i := 8) (N := some 21) (v := ?_) (a' := ?_) #[true, true, true, true, true, true, true, true, true, false] rfl rfl (any_of HT_.out (by kernel_rfl)) (fun _ _ _ h => h) (Or.inl ⟨by rfl, ?_⟩) ?_ ?_
         rotate_left
         ·
          intro w'
          go_simp
          with_reducible rfl
         rotate_left
         ·
          simp only [Act.put, List.setIfInBounds_toArray, List.set_cons_zero, List.set_cons_succ, i64_w, i32_w]
          rfl
         refine last_ (i := 9) (N := none) #[true, true, true, true, true, true, true, true, true, true] rfl rfl (one_of HT_.out (by kernel_rfl)) (by decide) (fun K hK => ?_)
         have hs14 : w13.cell? ⟨gb102, 0, none⟩ = some (.int .u64 x103000_1) := (blk_cell BK102.out 0).trans rfl
         have hfs14 := blk_frozen BK102.out 0
         have hns14_0 := NB101_102.out
         have hms14_0 := NB102_101.out
         refine skip_ (w1 := ?_) (by rfl) rfl ?_ ?_
         rotate_left
         ·
          go_simp
          rfl
         refine hK.out _ _ ?_
         clear hK K
         refine done_ (done_of HT_.out (by kernel_rfl)) ?_
         try go_wp2
         have n0_ : Aside0 ((w13.setCell ⟨gb102, 0, none⟩ (.int .u64 (Go.bits .or .u64 (IntKind.u64.wrap (x103000_1 * 256)) (IntKind.u64.wrap (bt a0 x10_1))))).heap[gb101]? = some (.cells #[.int .u64 0, .int .u64 0] 26 (0, 0))) := ⟨by (with_reducible repeat (first | refine blk_drewN ?_ _ | refine blk_drew ?_ | refine blk_alloc ?_ _)); refine blk_far ?_ NB101_102.out _; (with_reducible repeat (first | refine blk_drewN ?_ _ | refine blk_drew ?_ | refine blk_alloc ?_ _)); exact BK101.out⟩
         have n1_ : Aside0 ((w13.setCell ⟨gb102, 0, none⟩ (.int .u64 (Go.bits .or .u64 (IntKind.u64.wrap (x103000_1 * 256)) (IntKind.u64.wrap (bt a0 x10_1))))).heap[gb102]? = some (.cells #[.int .u64 (Go.bits .or .u64 (IntKind.u64.wrap (x103000_1 * 256)) (IntKind.u64.wrap (bt a0 x10_1))), .int .u64 x103001_1] 26 (0, 0))) := ⟨by (with_reducible repeat (first | refine blk_drewN ?_ _ | refine blk_drew ?_ | refine blk_alloc ?_ _)); refine blk_put (cs := #[.int .u64 x103000_1, .int .u64 x103001_1]) ?_ 0 _ rfl; (with_reducible repeat (first | refine blk_drewN ?_ _ | refine blk_drew ?_ | refine blk_alloc ?_ _)); exact BK102.out⟩
         have n2_ : Aside0 (Below w.heap.size w (w13.setCell ⟨gb102, 0, none⟩ (.int .u64 (Go.bits .or .u64 (IntKind.u64.wrap (x103000_1 * 256)) (IntKind.u64.wrap (bt a0 x10_1)))))) := ⟨by repeat (first | (with_reducible first | exact HB.out | apply below_alloc | apply pw_below_drewN | apply below_drew1 | refine below_set ?_ GE101.out | refine below_set ?_ GE102.out) | exact HB.out)⟩
         (try clear BK101)
         (try clear BK102)
         (try clear HB)
         generalize (w13.setCell ⟨gb102, 0, none⟩ (.int .u64 (Go.bits .or .u64 (IntKind.u64.wrap (x103000_1 * 256)) (IntKind.u64.wrap (bt a0 x10_1))))) = w15 at n0_ n1_ n2_ ⊢
         have BK101 := n0_
         have BK102 := n1_
         have HB := n2_
         clear n0_ n1_ n2_
         have n0_ := aM' (blk_drew BK101.out)
         have n1_ := aM' (blk_drew BK102.out)
         have n2_ := aM' (below_drew1 HB.out)
         clear BK101
         clear BK102
         clear HB
         have BK101 := n0_
         have BK102 := n1_
         have HB := n2_
         clear n0_ n1_ n2_
         have p12 : 0 ≤ ((ji9) : Int) := of_decide_eq_true (by first | (with_reducible assumption) | assumption)
         have q12 : (ji9) < (a0.size : Int) := of_decide_eq_true (by first | (with_reducible assumption) | assumption)
         have hx12 := bt_at a0 (ji9)
         replace p12 := eq_true p12
         replace q12 := eq_true q12
         refine start_ (n := 11) (S := fun w' => w'.cell? ⟨gb102, 0, none⟩ = some (.int .u64 (Go.bits .or .u64 (IntKind.u64.wrap (x103000_1 * 256)) (IntKind.u64.wrap (bt a0 x10_1)))) ∧ w'.cell? ⟨gb102, 1, none⟩ = some (.int .u64 x103001_1)) (ds := [10]) #[false, false, false, false, false, false, false, false, false, false, false] (by kernel_rfl) rfl rfl ⟨(blk_cell BK102.out 0).trans rfl, (blk_cell BK102.out 1).trans rfl⟩ (fun hHeld => ?_); refine with_tabW u128_From.tab8 u128_From.bits8 (fun HT_ HW_ => ?_)
         generalize w15.drew = w16 at BK101 BK102 HB hHeld ⊢
         refine pure_ (i := 0) (N := some 22) (v := ?_) (a' := ?_) #[true, false, false, false, false, false, false, false, false, false, false] rfl rfl (any_of HT_.out (by kernel_rfl)) (fun _ _ _ h => h) (Or.inl ⟨by rfl, ?_⟩) ?_ ?_
         rotate_left
         ·
          intro w'
          go_simp
          with_reducible rfl
         rotate_left
         ·
          simp only [Act.put, List.setIfInBounds_toArray, List.set_cons_zero, List.set_cons_succ, i64_w, i32_w]
          rfl
         refine pure_ (i := 3) (N := some 25) (v := ?_) (a' := ?_) #[true, false, false, true, false, false, false, false, false, false, false] rfl rfl (any_of HT_.out (by kernel_rfl)) (fun _ _ _ h => h) (Or.inl ⟨by rfl, ?_⟩) ?_ ?_
         rotate_left
         ·
          intro w'
          go_simp
          with_reducible rfl
         rotate_left
         ·
          simp only [Act.put, List.setIfInBounds_toArray, List.set_cons_zero, List.set_cons_succ, i64_w, i32_w]
          rfl
         refine pure_ (i := 4) (N := some 26) (v := ?_) (a' := ?_) #[true, false, false, true, true, false, false, false, false, false, false] rfl rfl (any_of HT_.out (by kernel_rfl)) (fun _ _ _ h => h) (Or.inl ⟨by rfl, ?_⟩) ?_ ?_
         rotate_left
         ·
          intro w'
          go_simp
          with_reducible rfl
         rotate_left
         ·
          simp only [Act.put, List.setIfInBounds_toArray, List.set_cons_zero, List.set_cons_succ, i64_w, i32_w]
          rfl
         refine pure_ (i := 5) (N := some 27) (v := ?_) (a' := ?_) #[true, false, false, true, true, true, false, false, false, false, false] rfl rfl (any_of HT_.out (by kernel_rfl)) (fun _ _ _ h => h) (Or.inl ⟨by rfl, ?_⟩) ?_ ?_
         rotate_left
         ·
          intro w'
          go_simp
          with_reducible rfl
         rotate_left
         ·
          simp only [Act.put, List.setIfInBounds_toArray, List.set_cons_zero, List.set_cons_succ, i64_w, i32_w]
          rfl
         refine take_ (i := 1) (N := some 23) (v := ?_) (a' := ?_) #[true, true, false, true, true, true, false, false, false, false, false] rfl rfl (take_ofW HT_.out HW_.out (by kernel_rfl)) (fun _ _ _ h => h) (Or.inl ⟨by rfl, ?_⟩) hHeld ?_ ?_
         rotate_left
         ·
          rintro w' ⟨s0, s1⟩
          go_simp
          with_reducible rfl
         rotate_left
         ·
          simp only [Act.put, List.setIfInBounds_toArray, List.set_cons_zero, List.set_cons_succ, i64_w, i32_w]
          rfl
         refine pure_ (i := 2) (N := some 24) (v := ?_) (a' := ?_) #[true, true, true, true, true, true, false, false, false, false, false] rfl rfl (any_of HT_.out (by kernel_rfl)) (fun _ _ _ h => h) (Or.inl ⟨by rfl, ?_⟩) ?_ ?_
         rotate_left
         ·
          intro w'
          go_simp
          with_reducible rfl
         rotate_left
         ·
          simp only [Act.put, List.setIfInBounds_toArray, List.set_cons_zero, List.set_cons_succ, i64_w, i32_w]
          rfl
         refine take_ (i := 6) (N := some 28) (v := ?_) (a' := ?_) #[true, true, true, true, true, true, true, false, false, false, false] rfl rfl (take_ofW HT_.out HW_.out (by kernel_rfl)) (fun _ _ _ h => h) (Or.inl ⟨by rfl, ?_⟩) hHeld ?_ ?_
         rotate_left
         ·
          rintro w' ⟨s0, s1⟩
          go_simp
          with_reducible rfl
         rotate_left
         ·
          simp only [Act.put, List.setIfInBounds_toArray, List.set_cons_zero, List.set_cons_succ, i64_w, i32_w]
          rfl
         refine pure_ (i := 7) (N := some 29) (v := ?_) (a' := ?_) #[true, true, true, true, true, true, true, true, false, false, false] rfl rfl (any_of HT_.out (by kernel_rfl)) (fun _ _ _ h => h) (Or.inl ⟨by rfl, ?_⟩) ?_ ?_
         rotate_left
         ·
          intro w'
          go_simp
          with_reducible rfl
         rotate_left
         ·
          simp only [Act.put, List.setIfInBounds_toArray, List.set_cons_zero, List.set_cons_succ, i64_w, i32_w]
          rfl
         refine pure_ (i := 8) (N := some 30) (v := ?_) (a' := ?_) #[true, true, true, true, true, true, true, true, true, false, false] rfl rfl (any_of HT_.out (by kernel_rfl)) (fun _ _ _ h => h) (Or.inl ⟨by rfl, ?_⟩) ?_ ?_
         rotate_left
         ·
          intro w'
          go_simp
          with_reducible rfl
         rotate_left
         ·
          simp only [Act.put, List.setIfInBounds_toArray, List.set_cons_zero, List.set_cons_succ, i64_w, i32_w]
          rfl
         refine pure_ (i := 9) (N := some 31) (v := ?_) (a' := ?_) #[true, true, true, true, true, true, true, true, true, true, false] rfl rfl (any_of HT_.out (by kernel_rfl)) (fun _ _ _ h => h) (Or.inl ⟨by rfl, ?_⟩) ?_ ?_
         rotate_left
         ·
          intro w'
          go_simp
          with_reducible rfl
         rotate_left
         ·
          simp only [Act.put, List.setIfInBounds_toArray, List.set_cons_zero, List.set_cons_succ, i64_w, i32_w]
          rfl
         refine last_ (i := 10) (N := none) #[true, true, true, true, true, true, true, true, true, true, true] rfl rfl (one_of HT_.out (by kernel_rfl)) (by decide) (fun K hK => ?_)
         have hs17 : w16.cell? ⟨gb102, 1, none⟩ = some (.int .u64 x103001_1) := (blk_cell BK102.out 1).trans rfl
         have hfs17 := blk_frozen BK102.out 1
         have hns17_0 := NB101_102.out
         have hms17_0 := NB102_101.out
         refine skip_ (w1 := ?_) (by rfl) rfl ?_ ?_
         rotate_left
         ·
          go_simp
          rfl
         refine hK.out _ _ ?_
         clear hK K
         refine done_ (done_of HT_.out (by kernel_rfl)) ?_
         try go_wp2
         go_roundg k1
         case measure => have := HK1.out; omega
         case rel => exact ⟨(wrap64 (x10_1 + 1)), (Go.bits .or .u64 (IntKind.u64.wrap (x103000_1 * 256)) (IntKind.u64.wrap (bt a0 x10_1))), (Go.bits .or .u64 (IntKind.u64.wrap (x103001_1 * 256)) (IntKind.u64.wrap (bt a0 (ji9)))), (by first | rfl | (simp; done) | (simp [*]; done)), H', ⟨by have := HK1.out; omega⟩, ⟨by (with_reducible repeat (first | refine blk_drewN ?_ _ | refine blk_drew ?_ | refine blk_alloc ?_ _)); refine blk_far ?_ NB101_102.out _; (with_reducible repeat (first | refine blk_drewN ?_ _ | refine blk_drew ?_ | refine blk_alloc ?_ _)); exact BK101.out⟩, ⟨by (with_reducible repeat (first | refine blk_drewN ?_ _ | refine blk_drew ?_ | refine blk_alloc ?_ _)); refine blk_put (cs := #[.int .u64 (Go.bits .or .u64 (IntKind.u64.wrap (x103000_1 * 256)) (IntKind.u64.wrap (bt a0 x10_1))), .int .u64 x103001_1]) ?_ 1 _ rfl; (with_reducible repeat (first | refine blk_drewN ?_ _ | refine blk_drew ?_ | refine blk_alloc ?_ _)); exact BK102.out⟩, ⟨by repeat (first | (with_reducible first | exact HB.out | apply below_alloc | apply pw_below_drewN | apply below_drew1 | refine below_set ?_ GE101.out | refine below_set ?_ GE102.out) | exact HB.out)⟩⟩
        ·
         rw [if_neg c11] at H
         exact absurd H (by simp)
       ·
        rw [if_neg c10] at H
        exact absurd H (by simp)
      ·
       rw [if_neg c7] at H
       exact absurd H (by simp)
     ·
      rw [if_neg c6] at H
      exact absurd H (by simp)
    ·
     rw [if_neg c5] at H
     have c5b0 : decide (x10_1 < 8) = false := decide_eq_false c5
     clear c5
     simp only [Option.some.injEq, Prod.mk.injEq] at H
     obtain ⟨rfl, rfl, rfl⟩ := H
     have hnb18 := NB102_101.out
     have hnc18 := NB101_102.out
     have hcz19_0 : wr.cell? ⟨gb102, 0, none⟩ = some (.int .u64 x103000_1) := (blk_cell BK102.out 0).trans rfl
     have hcz19_1 : wr.cell? ⟨gb102, 1, none⟩ = some (.int .u64 x103001_1) := (blk_cell BK102.out 1).trans rfl
     have hfz19_0 := blk_frozen BK102.out 0
     have hfz19_1 := blk_frozen BK102.out 1
     have hcz20_0 : wr.cell? ⟨gb101, 0, none⟩ = some (.int .u64 0) := (blk_cell BK101.out 0).trans rfl
     have hcz20_1 : wr.cell? ⟨gb101, 1, none⟩ = some (.int .u64 0) := (blk_cell BK101.out 1).trans rfl
     have hfz20_0 := blk_frozen BK101.out 0
     have hfz20_1 := blk_frozen BK101.out 1
     go_wp2
     refine bodyPost_ret (results_ct rfl _ _ gb101 26 #[.int .u64 x103000_1, .int .u64 x103001_1] (0, 0) _ rfl (by (with_reducible repeat (first | refine blk_drewN ?_ _ | refine blk_drew ?_ | refine blk_alloc ?_ _)); refine blk_put (cs := #[.int .u64 x103000_1, .int .u64 0]) ?_ 1 _ rfl; (with_reducible repeat (first | refine blk_drewN ?_ _ | refine blk_drew ?_ | refine blk_alloc ?_ _)); refine blk_put (cs := #[.int .u64 0, .int .u64 0]) ?_ 0 _ rfl; (with_reducible repeat (first | refine blk_drewN ?_ _ | refine blk_drew ?_ | refine blk_alloc ?_ _)); exact BK101.out) Tryd.underlying26 rfl (by kernel_rfl)) rfl ?_
     exact ⟨by first | rfl | (simp [errW_none, errW_some] <;> rfl) | (simp [*, errW_none, errW_some] <;> rfl), by repeat (first | (with_reducible first | exact HB.out | apply below_alloc | apply pw_below_drewN | apply below_drew1 | refine below_set ?_ GE101.out | refine below_set ?_ GE102.out) | exact HB.out)⟩
 ·
  rw [if_neg c2] at H
  have c2b0 : ((a0.size : Int) == 16) = false := beq_eq_false_iff_ne.mpr c2
  have c2b1 : ((a0.size : Int) != 16) = true := bne_iff_ne.mpr c2
  simp only [Option.some.injEq, Prod.mk.injEq] at H
  obtain ⟨rfl, rfl, rfl⟩ := H
  go_enter Tryd.func115, Tryd.ntmps115
  go_wp2_with (first | ((with_reducible refine gate_dst (N := 2) rfl ?_); refine box_event ?hg (N := 2) ?hd (cs := #[.int .u64 0, .int .u64 0]) (t := 26) ?hr ?_; (case hd => rfl); (case hg => rfl); (case hr => first | (go_simp; done) | (go_simp; rfl)); intro gb101 hg w21 hbox hb; have n0_ := aM' (below_step (by repeat (first | (with_reducible first | exact HB.out | apply below_alloc | apply pw_below_drewN | apply below_drew1) | exact HB.out)) hb); have n1_ := aM' (hbox); have n2_ := aM' ((by rw [hg]; exact (below_size (by repeat (first | (with_reducible first | exact HB.out | apply below_alloc | apply pw_below_drewN | apply below_drew1) | exact HB.out))) : w.heap.size ≤ gb101)); have n3_ := aM' ((by rw [hg]; exact (below_size (by repeat (first | (with_reducible first | exact HB.out | apply below_alloc | apply pw_below_drewN | apply below_drew1) | exact HB.out))) : w.heap.size ≤ gb101)); clear HB; have HB := n0_; have BK101 := n1_; have GW101 := n2_; have GE101 := n3_; clear n0_ n1_ n2_ n3_; clear hb hbox hg; have hcz22_0 : w21.cell? ⟨gb101, 0, none⟩ = some (.int .u64 0) := (blk_cell BK101.out 0).trans rfl; have hcz22_1 : w21.cell? ⟨gb101, 1, none⟩ = some (.int .u64 0) := (blk_cell BK101.out 1).trans rfl; have hfz22_0 := blk_frozen BK101.out 0; have hfz22_1 := blk_frozen BK101.out 1))
  refine bodyPost_ret (results_ct rfl _ _ gb101 26 #[.int .u64 0, .int .u64 0] (0, 0) _ rfl (by (with_reducible repeat (first | refine blk_drewN ?_ _ | refine blk_drew ?_ | refine blk_alloc ?_ _)); refine blk_put (cs := #[.int .u64 0, .int .u64 0]) ?_ 1 _ rfl; (with_reducible repeat (first | refine blk_drewN ?_ _ | refine blk_drew ?_ | refine blk_alloc ?_ _)); refine blk_put (cs := #[.int .u64 0, .int .u64 0]) ?_ 0 _ rfl; (with_reducible repeat (first | refine blk_drewN ?_ _ | refine blk_drew ?_ | refine blk_alloc ?_ _)); exact BK101.out) Tryd.underlying26 rfl (by kernel_rfl)) rfl ?_
  exact ⟨by first | rfl | (simp [errW_none, errW_some] <;> rfl) | (simp [*, errW_none, errW_some] <;> rfl), by repeat (first | (with_reducible first | exact HB.out | apply below_alloc | apply pw_below_drewN | apply below_drew1 | refine below_set ?_ GE101.out) | exact HB.out)⟩
end Go.Proofs.YtijfifphcchbbaaDoor.P
namespace Go.Proofs.YtijfifphcchbbaaDoor.P
open Go.RowKit Go.Proofs.YtijfifphcchbbaaDoorW.PrintWords Go.Proofs.YtijfifphcchbbaaDoorW.PrintLast Go.Proofs.YtijfifphcchbbaaDoorW.PrintMore
set_option linter.unusedVariables false
set_option linter.unusedSimpArgs false
set_option linter.unnecessarySimpa false
abbrev shortP : Ending := .panicked [{ v := .iface 125 (.agg #[]), recovered := false }]
abbrev rdO (t : ByteArray) : Obj := .cells #[.string t] 175 (0, 0)
set_option maxRecDepth 100000 in
theorem take_short (g : Nat) (t : ByteArray) (n : Int) (W : World) (h : W.heap[g]? = some (rdO t)) (hn : (t.size : Int) < n) :
  Calls Tryd.prog 73 #[.pointer (some ⟨g, 0, none⟩), .int .i64 n] W fun e w' => e = shortP ∧ w' = W := by
 have x0 : W.cell? ⟨g, 0, none⟩ = some (.string t) := blk_cell h 0
 have b0 : decide ((t.size : Int) < n) = true := decide_eq_true hn
 have hut := Tryd.underlying175
 have hus := Tryd.underlying125
 go_enter Tryd.func73, Tryd.ntmps73
 go_wp2
 exact ⟨rfl, rfl, rfl⟩
set_option maxRecDepth 100000 in
theorem take_ok (g : Nat) (t : ByteArray) (n : Nat) (W : World) (h : W.heap[g]? = some (rdO t)) (hn : n ≤ t.size) :
  Calls Tryd.prog 73 #[.pointer (some ⟨g, 0, none⟩), .int .i64 (n : Int)] W fun e w' => e = .returned (.string (t.extract 0 n)) ∧ w' = W.setCell ⟨g, 0, none⟩ (.string (t.extract n t.size)) := by
 have x0 : W.cell? ⟨g, 0, none⟩ = some (.string t) := blk_cell h 0
 have xf : W.frozen? ⟨g, 0, none⟩ = false := blk_frozen h 0
 have b0 : decide ((t.size : Int) < (n : Int)) = false := decide_eq_false (by omega)
 have b1 : decide (t.size < n) = false := decide_eq_false (by omega)
 have hut := Tryd.underlying175
 go_enter Tryd.func73, Tryd.ntmps73
 go_wp2
 go_ret
 exact ⟨rfl, rfl⟩
set_option maxRecDepth 100000 in
theorem number_short (g : Nat) (t : ByteArray) (W : World) (h : W.heap[g]? = some (rdO t)) (hn : t.size < 1) :
  Calls Tryd.prog 72 #[.pointer (some ⟨g, 0, none⟩)] W fun e w' => e = shortP ∧ w' = W := by
 have Q := aM' (take_short g t 1 W h (by omega))
 go_enter Tryd.func72, Tryd.ntmps72
 go_wp2_with fail
 refine Q.out.mono ?_
 rintro e w' ⟨rfl, rfl⟩
 go_wp2
 exact ⟨rfl, rfl, rfl⟩
set_option maxRecDepth 100000 in
theorem number_ok (g : Nat) (t : ByteArray) (W : World) (h : W.heap[g]? = some (rdO t)) (hn : 1 ≤ t.size) :
  Calls Tryd.prog 72 #[.pointer (some ⟨g, 0, none⟩)] W fun e w' => e = .returned (.int .i64 (bt t 0)) ∧ w' = W.setCell ⟨g, 0, none⟩ (.string (t.extract 1 t.size)) := by
 have Q := aM' (take_ok g t 1 W h hn)
 go_enter Tryd.func72, Tryd.ntmps72
 go_wp2_with fail
 refine Q.out.mono ?_
 rintro e w' ⟨rfl, rfl⟩
 have hx : (t.extract 0 1).size = 1 := by rw [ByteArray.size_extract]; omega
 have hv : ∀ h : 0 < (t.extract 0 1).size, (((t.extract 0 1)[0]'h).toNat : Int) = bt t 0 := fun h => by
  rw [← bt_at t 0 (show (0 : Int).toNat < t.size from hn)]
  simp [ByteArray.getElem_extract]
 have hw : wrap64 (bt t 0) = bt t 0 := by have := bt_range t 0; exact wrap64_id (by omega) (by omega)
 go_wp2
 simp only [hv, hw]
 go_ret
 exact ⟨rfl, rfl⟩
set_option maxRecDepth 100000 in
theorem end_ok (g : Nat) (t : ByteArray) (W : World) (h : W.heap[g]? = some (rdO t)) (ht : t.toList.isEmpty = true) :
  Calls Tryd.prog 114 #[.pointer (some ⟨g, 0, none⟩)] W fun e w' => e = .returned (.tuple #[]) ∧ w' = W := by
 have x0 : W.cell? ⟨g, 0, none⟩ = some (.string t) := blk_cell h 0
 have b0 : (!t.toList.isEmpty) = false := by rw [ht]; rfl
 have hut := Tryd.underlying175
 go_enter Tryd.func114, Tryd.ntmps114
 go_wp2
 go_end0
 exact ⟨rfl, rfl⟩
set_option maxRecDepth 100000 in
theorem end_long (g : Nat) (t : ByteArray) (W : World) (h : W.heap[g]? = some (rdO t)) (ht : t.toList.isEmpty = false) :
  Calls Tryd.prog 114 #[.pointer (some ⟨g, 0, none⟩)] W fun e w' => e = shortP ∧ w' = W := by
 have x0 : W.cell? ⟨g, 0, none⟩ = some (.string t) := blk_cell h 0
 have b0 : (!t.toList.isEmpty) = true := by rw [ht]; rfl
 have hut := Tryd.underlying175
 have hus := Tryd.underlying125
 go_enter Tryd.func114, Tryd.ntmps114
 go_wp2
 exact ⟨rfl, rfl, rfl⟩
set_option maxHeartbeats 2000000 in
set_option maxRecDepth 100000 in
theorem recov_short (g : Nat) (b : Bool) (w : World) (h : w.heap[g]? = some (.cells #[.bool b] 4 (0, 0))) :
  CallsD Tryd.prog 113 #[.pointer (some ⟨g, 0, none⟩)] (.panicking [{ v := .iface 125 (.agg #[]), recovered := false }]) w fun e u' w' =>
   e = .returned (.tuple #[]) ∧ u' = .panicking [{ v := .iface 125 (.agg #[]), recovered := true }] ∧ w' = (w.alloc (.cells #[] 125)).setCell ⟨g, 0, none⟩ (.bool false) := by
 have hus := Tryd.underlying125
 have x0 : (w.alloc (.cells #[] 125)).cell? ⟨g, 0, none⟩ = some (.bool b) := blk_cell (blk_alloc h _) 0
 have xf : (w.alloc (.cells #[] 125)).frozen? ⟨g, 0, none⟩ = false := blk_frozen (blk_alloc h _) 0
 have hta : ∀ W : World, (Instr.typeAssert (.iface 125 (.agg #[])) 20 125 true).run Tryd.prog W = .ok (.tuple #[.agg #[], .bool true]) W := fun W => by simp [Instr.typeAssert, go_sem, hus]
 refine callsD_of_wpS Tryd.func113 rfl fun c₀ cs hu => ?_
 apply wpS_seq
 apply wpS_region
 simp [wpOpsS, go_sem, recoverD, hu, Tryd.ntmps113, Exit.thenS]
 refine wpS_of_wp ?_
 go_wp2
 cases c₀
 simp_all [bodyPostS, results, Tryd.results113]
set_option maxRecDepth 100000 in
theorem recov_idle (p : Addr) (w : World) :
  CallsD Tryd.prog 113 #[.pointer (some p)] .returning w fun e u' w' => e = .returned (.tuple #[]) ∧ u' = .returning ∧ w' = w := by
 refine callsD_of_wpS Tryd.func113 rfl fun c₀ cs hu => ?_
 apply wpS_seq
 apply wpS_region
 simp [wpOpsS, go_sem, recoverD, hu, Tryd.ntmps113, Exit.thenS]
 refine wpS_of_wp ?_
 go_wp2
 cases c₀
 simp_all [bodyPostS, results, Tryd.results113]
end Go.Proofs.YtijfifphcchbbaaDoor.P
namespace Go.Proofs.YtijfifphcchbbaaDoor.P
open Go.RowKit Go.Proofs.YtijfifphcchbbaaDoorW.PrintWords Go.Proofs.YtijfifphcchbbaaDoorW.PrintLast Go.Proofs.YtijfifphcchbbaaDoorW.PrintMore
set_option linter.unusedVariables false
set_option linter.unusedSimpArgs false
set_option linter.unnecessarySimpa false
structure RdS (W w' : World) (rest : ByteArray) : Prop where
 ok : w'.heap[W.heap.size]? = some (.cells #[.bool false] 4 (0, 0))
 rd : w'.heap[W.heap.size + 1]? = some (rdO rest)
def RdPost (R : Option ByteArray → World → Prop) (e : Ending) (w' : World) : Prop := (∃ rest : ByteArray, rest.toList.isEmpty = true ∧ e = .returned (.bool true) ∧ R (some rest) w') ∨ (e = .returned (.bool false) ∧ ((∃ rest : ByteArray, rest.toList.isEmpty = false ∧ R (some rest) w') ∨ R none w'))
theorem keeps_set {n : Nat} {w : World} (g : Nat) (h : n ≤ g) (i : Nat) (v : Value) : Below n w (w.setCell ⟨g, i, none⟩ v) := ⟨rfl, rfl, rfl, by simp [World.setCell], fun b hb => Below.heap_setCell _ _ _ _ (by show b ≠ g; omega)⟩
theorem keeps_alloc {n : Nat} {w : World} (h : n ≤ w.heap.size) (o : Obj) : Below n w (w.alloc o) := ⟨rfl, rfl, rfl, by rw [World.size_alloc]; omega, fun b hb => Below.heap_alloc _ _ _ (by omega)⟩
theorem RdS.le {W w : World} {r : ByteArray} (h : RdS W w r) : W.heap.size ≤ w.heap.size := Nat.le_of_lt (blk_lt h.ok)
theorem RdS.true_ {W w : World} {r : ByteArray} (h : RdS W w r) : Below W.heap.size w (w.setCell ⟨W.heap.size, 0, none⟩ (.bool true)) := keeps_set _ (Nat.le_refl _) 0 _
theorem RdS.false_ {W w : World} {r : ByteArray} (h : RdS W w r) (o : Obj) : Below W.heap.size w ((w.alloc o).setCell ⟨W.heap.size, 0, none⟩ (.bool false)) := (keeps_alloc h.le o).trans (keeps_set _ (Nat.le_refl _) 0 _)
set_option maxHeartbeats 4000000 in
set_option maxRecDepth 100000 in
theorem reads_two.calls (p q r : Addr) (text : ByteArray) (W : World) (R : Option ByteArray → World → Prop) (hR : ∀ o w' w'', R o w' → Below W.heap.size w' w'' → R o w'')
  (hd : ∀ W1 : World, RdS W W1 text → Below W.heap.size W W1 → Calls Tryd.prog 71 #[.pointer (some ⟨W.heap.size + 1, 0, none⟩), .pointer (some p), .pointer (some q), .pointer (some r)] W1 fun e w' => (∃ rest, e = .returned (.tuple #[]) ∧ RdS W w' rest ∧ R (some rest) w') ∨ (e = shortP ∧ (∃ rest, RdS W w' rest) ∧ R none w')) :
  Calls Tryd.prog 70 #[.string text, .func (.func 71) #[] #[.pointer (some p), .pointer (some q), .pointer (some r)]] W fun e w' => RdPost R e w' := by
 have hmf : ∀ (fn : Fn) (first cap : Array Value) (w : World), (Instr.makeFunc fn first cap).run Tryd.prog w = .ok (.func fn first cap) w := fun _ _ _ _ => rfl
 have hut := Tryd.underlying175
 have hs1 : RdS W ((W.alloc (.cells #[.bool false] 4)).alloc (.cells #[.string text] 175)) text := ⟨blk_alloc (blk_new W _) _, by have := blk_new (W.alloc (.cells #[.bool false] 4)) (.cells #[.string text] 175); rwa [World.size_alloc] at this⟩
 have HD := aM' (hd _ hs1 (below_alloc (below_alloc (Below.refl _ _) _) _))
 have HR := aM' hR
 clear hd hR hs1
 go_enter_defers Tryd.func70, Tryd.ntmps70
 go_wp2_with fail
 refine HD.out.mono ?_
 rintro e w1 (⟨rest, rfl, hs, hr⟩ | ⟨rfl, ⟨rest, hs⟩, hr⟩)
 ·
  have HS := aM' hs
  have HRR := aM' hr
  clear hs hr
  cases hE : rest.toList.isEmpty with
  | true =>
   have HE := aM' hE
   have Q := aM' (end_ok (W.heap.size + 1) rest w1 HS.out.rd hE)
   have x0 : w1.cell? ⟨W.heap.size, 0, none⟩ = some (.bool false) := blk_cell HS.out.ok 0
   have xf : w1.frozen? ⟨W.heap.size, 0, none⟩ = false := blk_frozen HS.out.ok 0
   clear hE
   go_wp2_with fail
   refine Q.out.mono ?_
   rintro e w2 ⟨rfl, rfl⟩
   go_wp2
   refine leaves_cons (f := 113) (args := #[.pointer (some ⟨W.heap.size, 0, none⟩)]) (by simp) (by simp [go_sem]) ?_
   refine (recov_idle ⟨W.heap.size, 0, none⟩ _).mono ?_
   rintro e u' w'' ⟨rfl, rfl, rfl⟩
   have hfin : R (some rest) (w2.setCell ⟨W.heap.size, 0, none⟩ (.bool true)) := HR.out _ _ _ HRR.out HS.out.true_
   have hz : (w2.setCell ⟨W.heap.size, 0, none⟩ (.bool true)).cell? ⟨W.heap.size, 0, none⟩ = some (.bool true) := blk_cell (blk_put (cs' := #[.bool true]) HS.out.ok 0 (.bool true) rfl) 0
   have he := HE.out
   simp [Leaves, settle, results, Tryd.results70, go_sem, hz]
   exact Or.inl ⟨rest, he, rfl, hfin⟩
  | false =>
   have HE := aM' hE
   have Q := aM' (end_long (W.heap.size + 1) rest w1 HS.out.rd hE)
   clear hE
   go_wp2_with fail
   refine Q.out.mono ?_
   rintro e w2 ⟨rfl, rfl⟩
   go_wp2
   refine leaves_cons (f := 113) (args := #[.pointer (some ⟨W.heap.size, 0, none⟩)]) (by simp) (by simp [go_sem]) ?_
   refine (recov_short W.heap.size false _ HS.out.ok).mono ?_
   rintro e u' w'' ⟨rfl, rfl, rfl⟩
   have hfin : R (some rest) ((w2.alloc (.cells #[] 125)).setCell ⟨W.heap.size, 0, none⟩ (.bool false)) := HR.out _ _ _ HRR.out (HS.out.false_ _)
   have hz : ((w2.alloc (.cells #[] 125)).setCell ⟨W.heap.size, 0, none⟩ (.bool false)).cell? ⟨W.heap.size, 0, none⟩ = some (.bool false) := blk_cell (blk_put (cs' := #[.bool false]) (blk_alloc HS.out.ok _) 0 (.bool false) rfl) 0
   simp [Leaves, settle, results, Tryd.results70, go_sem, hz]
   exact Or.inr ⟨rfl, Or.inl ⟨rest, HE.out, hfin⟩⟩
 ·
  have HS := aM' hs
  have HRR := aM' hr
  clear hs hr
  go_wp2
  refine leaves_cons (f := 113) (args := #[.pointer (some ⟨W.heap.size, 0, none⟩)]) (by simp) (by simp [go_sem]) ?_
  refine (recov_short W.heap.size false _ HS.out.ok).mono ?_
  rintro e u' w'' ⟨rfl, rfl, rfl⟩
  have hfin : R (none) ((w1.alloc (.cells #[] 125)).setCell ⟨W.heap.size, 0, none⟩ (.bool false)) := HR.out _ _ _ HRR.out (HS.out.false_ _)
  have hz : ((w1.alloc (.cells #[] 125)).setCell ⟨W.heap.size, 0, none⟩ (.bool false)).cell? ⟨W.heap.size, 0, none⟩ = some (.bool false) := blk_cell (blk_put (cs' := #[.bool false]) (blk_alloc HS.out.ok _) 0 (.bool false) rfl) 0
  simp [Leaves, settle, results, Tryd.results70, go_sem, hz]
  exact Or.inr ⟨rfl, Or.inr hfin⟩
set_option maxHeartbeats 4000000 in
set_option maxRecDepth 100000 in
theorem reads_leaf.calls (p : Addr) (text : ByteArray) (W : World) (R : Option ByteArray → World → Prop) (hR : ∀ o w' w'', R o w' → Below W.heap.size w' w'' → R o w'')
  (hd : ∀ W1 : World, RdS W W1 text → Below W.heap.size W W1 → Calls Tryd.prog 108 #[.pointer (some ⟨W.heap.size + 1, 0, none⟩), .pointer (some p)] W1 fun e w' => (∃ rest, e = .returned (.tuple #[]) ∧ RdS W w' rest ∧ R (some rest) w') ∨ (e = shortP ∧ (∃ rest, RdS W w' rest) ∧ R none w')) :
  Calls Tryd.prog 70 #[.string text, .func (.func 108) #[] #[.pointer (some p)]] W fun e w' => RdPost R e w' := by
 have hmf : ∀ (fn : Fn) (first cap : Array Value) (w : World), (Instr.makeFunc fn first cap).run Tryd.prog w = .ok (.func fn first cap) w := fun _ _ _ _ => rfl
 have hut := Tryd.underlying175
 have hs1 : RdS W ((W.alloc (.cells #[.bool false] 4)).alloc (.cells #[.string text] 175)) text := ⟨blk_alloc (blk_new W _) _, by have := blk_new (W.alloc (.cells #[.bool false] 4)) (.cells #[.string text] 175); rwa [World.size_alloc] at this⟩
 have HD := aM' (hd _ hs1 (below_alloc (below_alloc (Below.refl _ _) _) _))
 have HR := aM' hR
 clear hd hR hs1
 go_enter_defers Tryd.func70, Tryd.ntmps70
 go_wp2_with fail
 refine HD.out.mono ?_
 rintro e w1 (⟨rest, rfl, hs, hr⟩ | ⟨rfl, ⟨rest, hs⟩, hr⟩)
 ·
  have HS := aM' hs
  have HRR := aM' hr
  clear hs hr
  cases hE : rest.toList.isEmpty with
  | true =>
   have HE := aM' hE
   have Q := aM' (end_ok (W.heap.size + 1) rest w1 HS.out.rd hE)
   have x0 : w1.cell? ⟨W.heap.size, 0, none⟩ = some (.bool false) := blk_cell HS.out.ok 0
   have xf : w1.frozen? ⟨W.heap.size, 0, none⟩ = false := blk_frozen HS.out.ok 0
   clear hE
   go_wp2_with fail
   refine Q.out.mono ?_
   rintro e w2 ⟨rfl, rfl⟩
   go_wp2
   refine leaves_cons (f := 113) (args := #[.pointer (some ⟨W.heap.size, 0, none⟩)]) (by simp) (by simp [go_sem]) ?_
   refine (recov_idle ⟨W.heap.size, 0, none⟩ _).mono ?_
   rintro e u' w'' ⟨rfl, rfl, rfl⟩
   have hfin : R (some rest) (w2.setCell ⟨W.heap.size, 0, none⟩ (.bool true)) := HR.out _ _ _ HRR.out HS.out.true_
   have hz : (w2.setCell ⟨W.heap.size, 0, none⟩ (.bool true)).cell? ⟨W.heap.size, 0, none⟩ = some (.bool true) := blk_cell (blk_put (cs' := #[.bool true]) HS.out.ok 0 (.bool true) rfl) 0
   have he := HE.out
   simp [Leaves, settle, results, Tryd.results70, go_sem, hz]
   exact Or.inl ⟨rest, he, rfl, hfin⟩
  | false =>
   have HE := aM' hE
   have Q := aM' (end_long (W.heap.size + 1) rest w1 HS.out.rd hE)
   clear hE
   go_wp2_with fail
   refine Q.out.mono ?_
   rintro e w2 ⟨rfl, rfl⟩
   go_wp2
   refine leaves_cons (f := 113) (args := #[.pointer (some ⟨W.heap.size, 0, none⟩)]) (by simp) (by simp [go_sem]) ?_
   refine (recov_short W.heap.size false _ HS.out.ok).mono ?_
   rintro e u' w'' ⟨rfl, rfl, rfl⟩
   have hfin : R (some rest) ((w2.alloc (.cells #[] 125)).setCell ⟨W.heap.size, 0, none⟩ (.bool false)) := HR.out _ _ _ HRR.out (HS.out.false_ _)
   have hz : ((w2.alloc (.cells #[] 125)).setCell ⟨W.heap.size, 0, none⟩ (.bool false)).cell? ⟨W.heap.size, 0, none⟩ = some (.bool false) := blk_cell (blk_put (cs' := #[.bool false]) (blk_alloc HS.out.ok _) 0 (.bool false) rfl) 0
   simp [Leaves, settle, results, Tryd.results70, go_sem, hz]
   exact Or.inr ⟨rfl, Or.inl ⟨rest, HE.out, hfin⟩⟩
 ·
  have HS := aM' hs
  have HRR := aM' hr
  clear hs hr
  go_wp2
  refine leaves_cons (f := 113) (args := #[.pointer (some ⟨W.heap.size, 0, none⟩)]) (by simp) (by simp [go_sem]) ?_
  refine (recov_short W.heap.size false _ HS.out.ok).mono ?_
  rintro e u' w'' ⟨rfl, rfl, rfl⟩
  have hfin : R (none) ((w1.alloc (.cells #[] 125)).setCell ⟨W.heap.size, 0, none⟩ (.bool false)) := HR.out _ _ _ HRR.out (HS.out.false_ _)
  have hz : ((w1.alloc (.cells #[] 125)).setCell ⟨W.heap.size, 0, none⟩ (.bool false)).cell? ⟨W.heap.size, 0, none⟩ = some (.bool false) := blk_cell (blk_put (cs' := #[.bool false]) (blk_alloc HS.out.ok _) 0 (.bool false) rfl) 0
  simp [Leaves, settle, results, Tryd.results70, go_sem, hz]
  exact Or.inr ⟨rfl, Or.inr hfin⟩
end Go.Proofs.YtijfifphcchbbaaDoor.P
namespace Go.Proofs.YtijfifphcchbbaaDoor.P
open Go.RowKit Go.Proofs.YtijfifphcchbbaaDoorW.PrintWords Go.Proofs.YtijfifphcchbbaaDoorW.PrintLast Go.Proofs.YtijfifphcchbbaaDoorW.PrintMore
set_option linter.unusedVariables false
set_option linter.unusedSimpArgs false
set_option linter.unnecessarySimpa false
def beI (t : ByteArray) (o : Nat) : Nat → Int
 | 0 => 0
 | n + 1 => (256 * beI t o n) % 18446744073709551616 + bt t ((o + n : Nat) : Int)
theorem beI_range (t : ByteArray) (o : Nat) : ∀ n, 0 ≤ beI t o n ∧ beI t o n < 18446744073709551616
 | 0 => ⟨Int.le_refl _, by show (0 : Int) < _; decide⟩
 | n + 1 => by
  have := bt_range t ((o + n : Nat) : Int)
  unfold beI
  omega
theorem or_add (a b : Nat) (ha : a % 256 = 0) (hb : b < 256) : a ||| b = a + b := by
 obtain ⟨c, rfl⟩ : ∃ c, a = 2 ^ 8 * c := ⟨a / 256, by omega⟩
 exact (Nat.two_pow_add_eq_or_of_lt (i := 8) hb c).symm
theorem wrap_u64 (x : Int) : IntKind.u64.wrap x = x % 18446744073709551616 := IntKind.wrap_u64 x
theorem or_step (x b : Int) (hb : 0 ≤ b ∧ b ≤ 255) : Go.bits .or .u64 (IntKind.u64.wrap (x * 256)) (IntKind.u64.wrap b) = (256 * x) % 18446744073709551616 + b := by
 rw [wrapu64_id hb.1 (by omega), wrap_u64, Int.mul_comm x 256]
 obtain ⟨m, hm⟩ := Int.eq_ofNat_of_zero_le (show 0 ≤ (256 * x) % 18446744073709551616 from Int.emod_nonneg _ (by decide))
 obtain ⟨c, rfl⟩ := Int.eq_ofNat_of_zero_le hb.1
 have h1 : m < 18446744073709551616 := by omega
 have h2 : m % 256 = 0 := by omega
 rw [hm, Go.bits_or_u64_nat m c h1 (by omega), or_add m c h2 (by omega)]
 omega
theorem ref_step (x b : Int) (hb : 0 ≤ b ∧ b ≤ 255) : IntKind.u64.wrap (IntKind.u64.wrap (256 * x) + IntKind.u64.wrap b) = (256 * x) % 18446744073709551616 + b := by
 rw [wrapu64_id hb.1 (by omega), wrap_u64, wrap_u64]
 omega
theorem from_loop (t : ByteArray) (ht : t.size = 16) : ∀ d i : Nat, i + d = 8 → Ev (fun k => u128_From.l0 k t (i : Int) (beI t 0 i) (beI t 8 i)) (beI t 0 8, beI t 8 8, 0) := by
 intro d
 induction d with
 | zero =>
  intro i hi
  obtain rfl : i = 8 := by omega
  exact Ev.step (f := fun _ => some (beI t 0 8, beI t 8 8, 0)) (fun k => by simp only [u128_From.l0]; rw [if_neg (by omega)]) (Ev.now _)
 | succ d ih =>
  intro i hi
  refine Ev.step (f := fun k => u128_From.l0 k t ((i + 1 : Nat) : Int) (beI t 0 (i + 1)) (beI t 8 (i + 1))) (fun k => ?_) (ih (i + 1) (by omega))
  simp only [u128_From.l0]
  rw [wrap64_id (show -9223372036854775808 ≤ (i : Int) + 8 by omega) (by omega), wrap64_id (show -9223372036854775808 ≤ (i : Int) + 1 by omega) (by omega), if_pos (by omega), if_pos (by omega), if_pos (by omega), if_pos (by omega), if_pos (by omega), or_step _ _ (bt_range _ _), or_step _ _ (bt_range _ _)]
  simp only [beI]
  rw [show ((0 + i : Nat) : Int) = (i : Int) by omega, show ((8 + i : Nat) : Int) = (i : Int) + 8 by omega]
  rfl
theorem from_ev (t : ByteArray) (ht : t.size = 16) : Ev (fun k => u128_From.f k t) (beI t 0 8, beI t 8 8, 0) := by
 unfold u128_From.f
 exact Ev.congr (fun k => by rw [if_pos (by omega)]; rfl) (from_loop t ht 8 0 (by omega))
theorem ref18sum_loop (t : ByteArray) (ht : 16 ≤ t.size) : ∀ d i : Nat, i + d = 8 → Ev (fun k => paymasterref18_sum.l0 k t (i : Int) (beI t 0 i) (beI t 8 i)) (beI t 0 8, beI t 8 8) := by
 intro d
 induction d with
 | zero =>
  intro i hi
  obtain rfl : i = 8 := by omega
  exact Ev.step (f := fun _ => some (beI t 0 8, beI t 8 8)) (fun k => by simp only [paymasterref18_sum.l0]; rw [if_neg (by omega)]) (Ev.now _)
 | succ d ih =>
  intro i hi
  refine Ev.step (f := fun k => paymasterref18_sum.l0 k t ((i + 1 : Nat) : Int) (beI t 0 (i + 1)) (beI t 8 (i + 1))) (fun k => ?_) (ih (i + 1) (by omega))
  simp only [paymasterref18_sum.l0]
  rw [wrap64_id (show -9223372036854775808 ≤ (i : Int) + 8 by omega) (by omega), wrap64_id (show -9223372036854775808 ≤ (i : Int) + 1 by omega) (by omega), if_pos (by omega), if_pos (by omega), if_pos (by omega), if_pos (by omega), if_pos (by omega), ref_step _ _ (bt_range _ _), ref_step _ _ (bt_range _ _)]
  simp only [beI]
  rw [show ((0 + i : Nat) : Int) = (i : Int) by omega, show ((8 + i : Nat) : Int) = (i : Int) + 8 by omega]
  rfl
theorem ref18sum_ev (t : ByteArray) (ht : 16 ≤ t.size) : Ev (fun k => paymasterref18_sum.f k t) (beI t 0 8, beI t 8 8) := by
 unfold paymasterref18_sum.f
 exact ref18sum_loop t ht 8 0 (by omega)
end Go.Proofs.YtijfifphcchbbaaDoor.P
namespace Go.Proofs.YtijfifphcchbbaaDoor.P
open Go.RowKit Go.Proofs.YtijfifphcchbbaaDoorW.PrintWords Go.Proofs.YtijfifphcchbbaaDoorW.PrintLast Go.Proofs.YtijfifphcchbbaaDoorW.PrintMore
set_option linter.unusedVariables false
set_option linter.unusedSimpArgs false
set_option linter.unnecessarySimpa false
set_option maxRecDepth 100000 in
theorem rsum_short (g : Nat) (t : ByteArray) (W : World) (h : W.heap[g]? = some (rdO t)) (hn : t.size < 16) :
  Calls Tryd.prog 74 #[.pointer (some ⟨g, 0, none⟩)] W fun e w' => e = shortP ∧ w' = W.alloc (.cells #[.int .u64 0, .int .u64 0] 26) := by
 have hq := take_short g t 16 (W.alloc (.cells #[.int .u64 0, .int .u64 0] 26)) (blk_alloc h _) (by omega)
 have Q := aM' hq
 clear hq h
 go_enter Tryd.func74, Tryd.ntmps74
 go_wp2_with fail
 refine Q.out.mono ?_
 rintro e w' ⟨rfl, rfl⟩
 go_wp2
 exact ⟨rfl, rfl, rfl⟩
set_option maxRecDepth 100000 in
set_option maxHeartbeats 1000000 in
theorem rsum_ok (g : Nat) (t : ByteArray) (W : World) (h : W.heap[g]? = some (rdO t)) (hn : 16 ≤ t.size) :
  Calls Tryd.prog 74 #[.pointer (some ⟨g, 0, none⟩)] W fun e w' => e = .returned (.agg #[.int .u64 (beI t 0 8), .int .u64 (beI t 8 8)]) ∧ w'.heap[g]? = some (rdO (t.extract 16 t.size)) ∧ Below g W w' := by
 have hu := Tryd.underlying26
 obtain ⟨W1, hW1⟩ : ∃ V, V = W.alloc (.cells #[.int .u64 0, .int .u64 0] 26) := ⟨_, rfl⟩
 have h1 : W1.heap[g]? = some (rdO t) := by rw [hW1]; exact blk_alloc h _
 have hg := blk_lt h
 have hq := take_ok g t 16 W1 h1 hn
 obtain ⟨W2, hW2⟩ : ∃ V, V = W1.setCell ⟨g, 0, none⟩ (.string (t.extract 16 t.size)) := ⟨_, rfl⟩
 rw [← hW2] at hq
 have hr2 : W2.heap[g]? = some (rdO (t.extract 16 t.size)) := by rw [hW2]; exact blk_put (cs' := #[.string (t.extract 16 t.size)]) h1 0 (.string (t.extract 16 t.size)) rfl
 have hz2 : W2.heap[W.heap.size]? = some (.cells #[.int .u64 0, .int .u64 0] 26 (0, 0)) := by rw [hW2, Below.heap_setCell _ _ _ _ (by show W.heap.size ≠ g; omega), hW1]; exact blk_new W _
 have hk2 : Below g W W2 := by rw [hW2, hW1]; exact (keeps_alloc (Nat.le_of_lt hg) _).trans (keeps_set g (Nat.le_refl _) 0 _)
 have hs2 : W.heap.size < W2.heap.size := blk_lt hz2
 have hx : (t.extract 0 16).size = 16 := by rw [ByteArray.size_extract]; omega
 obtain ⟨kf, hkf⟩ := (from_ev (t.extract 0 16) hx).rounds
 have e1 : ∀ o n, o + n ≤ 16 → beI (t.extract 0 16) o n = beI t o n := fun o n => by
  induction n with
  | zero => intro _; rfl
  | succ n ih =>
   intro hh
   unfold beI
   rw [ih (by omega)]
   congr 1
   unfold bt
   rw [dif_pos (by rw [hx]; omega), dif_pos (by omega)]
   simp [ByteArray.getElem_extract]
 rw [e1 0 8 (by decide), e1 8 8 (by decide)] at hkf
 have Q := aM' hq
 have KF := aM' hkf
 have R2 := aM' hr2
 have Z2 := aM' hz2
 have K2 := aM' hk2
 have S2 := aM' hs2
 have HG := aM' hg
 clear hq hkf hr2 hz2 hk2 hs2 e1 hx h h1 hg hW2
 go_enter Tryd.func74, Tryd.ntmps74
 go_wp2_with fail
 rw [← hW1]
 refine Q.out.mono ?_
 rintro e w' ⟨rfl, rfl⟩
 go_wp2_with fail
 refine (u128_From.calls kf _ _ _ _ _ KF.out).mono ?_
 rintro e w3 ⟨rfl, hb⟩
 have hz3 := blk_below Z2.out hb
 have hr3 := blk_below R2.out hb
 have Z3 := aM' hz3
 have R3 := aM' hr3
 have HB := aM' hb
 clear hz3 hr3 hb
 go_upto_region 2 with (fail)
 obtain ⟨W4, hW⟩ : ∃ V, V = w3.alloc (.cells #[.int .u64 (beI t 0 8), .int .u64 (beI t 8 8)] 26) := ⟨_, rfl⟩
 rw [← hW]
 have hn4 : W4.heap[w3.heap.size]? = some (.cells #[.int .u64 (beI t 0 8), .int .u64 (beI t 8 8)] 26 (0, 0)) := by rw [hW]; exact blk_new _ _
 have hz4 : W4.heap[W.heap.size]? = some (.cells #[.int .u64 0, .int .u64 0] 26 (0, 0)) := by rw [hW]; exact blk_alloc Z3.out _
 have hr4 : W4.heap[g]? = some (rdO (t.extract 16 t.size)) := by rw [hW]; exact blk_alloc R3.out _
 have hs3 := HB.out.size
 have hk4 : Below g W W4 := by
  have h3 := K2.out.trans (HB.out.mono (Nat.le_of_lt (Nat.lt_trans HG.out S2.out)))
  rw [hW]
  exact h3.trans (keeps_alloc (Nat.le_trans (Nat.le_of_lt (Nat.lt_trans HG.out S2.out)) HB.out.size) _)
 have hs4 : W.heap.size < W4.heap.size := blk_lt hz4
 generalize w3.heap.size = g3 at hn4 ⊢
 have x0 : W4.cell? ⟨g3, 0, none⟩ = some (.int .u64 (beI t 0 8)) := blk_cell hn4 0
 have x1 : W4.cell? ⟨g3, 1, none⟩ = some (.int .u64 (beI t 8 8)) := blk_cell hn4 1
 have z0 : W4.cell? ⟨W.heap.size, 0, none⟩ = some (.int .u64 0) := blk_cell hz4 0
 have z1 : W4.cell? ⟨W.heap.size, 1, none⟩ = some (.int .u64 0) := blk_cell hz4 1
 have zf : ∀ i, W4.frozen? ⟨W.heap.size, i, none⟩ = false := fun i => blk_frozen hz4 i
 have HZ4 := aM' hz4
 have HR4 := aM' hr4
 have HK4 := aM' hk4
 have HS4 := aM' hs4
 clear hW hn4 hz4 hr4 hk4 hs4 hs3 HB K2 Z3 R3
 go_wp2
 have ha := blk_put (cs' := #[.int .u64 (beI t 0 8), .int .u64 0]) HZ4.out 0 (.int .u64 (beI t 0 8)) rfl
 have hb := blk_put (cs' := #[.int .u64 (beI t 0 8), .int .u64 (beI t 8 8)]) ha 1 (.int .u64 (beI t 8 8)) rfl
 have y0 := blk_cell hb 0
 have y1 := blk_cell hb 1
 simp at y0 y1
 refine bodyPost_ret (v := .agg #[.int .u64 (beI t 0 8), .int .u64 (beI t 8 8)]) ?_ rfl ⟨rfl, ?_, ?_⟩
 ·
  simp [results, Tryd.results74, go_sem, hu, y0, y1]
 ·
  have hne : g ≠ W.heap.size := Nat.ne_of_lt HG.out
  rw [Below.heap_setCell _ _ _ _ hne, Below.heap_setCell _ _ _ _ hne]
  exact HR4.out
 ·
  exact HK4.out.trans ((keeps_set _ (Nat.le_of_lt HG.out) 0 _).trans (keeps_set _ (Nat.le_of_lt HG.out) 1 _))
end Go.Proofs.YtijfifphcchbbaaDoor.P
namespace Go.Proofs.YtijfifphcchbbaaDoor.P
open Go.RowKit Go.Proofs.YtijfifphcchbbaaDoorW.PrintWords Go.Proofs.YtijfifphcchbbaaDoorW.PrintLast Go.Proofs.YtijfifphcchbbaaDoorW.PrintMore
set_option linter.unusedVariables false
set_option linter.unusedSimpArgs false
set_option linter.unnecessarySimpa false
theorem add64_runs (x y c : Int) (hx : 0 ≤ x) (hy : 0 ≤ y) (hc0 : 0 ≤ c) (hc : c ≤ 1) (w : World) : (callFunc 103 #[.int .u64 x, .int .u64 y, .int .u64 c]).run Tryd.prog w =
  .ok (.value (.tuple #[.int .u64 ((x + y + c) % 18446744073709551616), .int .u64 ((x + y + c) / 18446744073709551616)])) w := by
 rw [run_callFunc_extern Tryd.func103 (by kernel_rfl) (by kernel_rfl) (by kernel_rfl) (e := add64Entry) (by kernel_rfl), run_add64 x y c hx hy hc0 hc]
 rfl
def u128_Add.f (a0_0 a0_1 a1_0 a1_1 : Int) : Option (Int × Int × Int) :=
 if ((0 ≤ a0_0 ∧ a0_0 < 18446744073709551616) ∧ (0 ≤ a0_1 ∧ a0_1 < 18446744073709551616)) ∧ ((0 ≤ a1_0 ∧ a1_0 < 18446744073709551616) ∧ (0 ≤ a1_1 ∧ a1_1 < 18446744073709551616)) then
  (if a0_0 + a1_0 + (a0_1 + a1_1) / 18446744073709551616 < 18446744073709551616 then some (a0_0 + a1_0 + (a0_1 + a1_1) / 18446744073709551616, (a0_1 + a1_1) % 18446744073709551616, 0) else some (0, 0, 10))
 else none
set_option maxRecDepth 100000 in
theorem u128_Add.calls (a0_0 : Int) (a0_1 : Int) (a1_0 : Int) (a1_1 : Int) (r1 : Int) (r2 : Int) (r3 : Int) (w : World) (h : u128_Add.f a0_0 a0_1 a1_0 a1_1 = some (r1, r2, r3)) :
  Calls Tryd.prog 61 #[.agg #[.int .u64 a0_0, .int .u64 a0_1], .agg #[.int .u64 a1_0, .int .u64 a1_1]] w fun e w' => e = .returned (.tuple #[.agg #[.int .u64 r1, .int .u64 r2], .int .i64 r3]) ∧ Below w.heap.size w w' := by
 have hu := Tryd.underlying26
 unfold u128_Add.f at h
 split at h
 ·
  rename_i hb
  obtain ⟨⟨⟨h00, h01⟩, h02, h03⟩, ⟨h10, h11⟩, h12, h13⟩ := hb
  have ha := add64_runs a0_1 a1_1 0 h02 h12 (by omega) (by omega)
  have hc := add64_runs a0_0 a1_0 ((a0_1 + a1_1) / 18446744073709551616) h00 h10 (by omega) (by omega)
  rw [Int.add_zero] at ha
  split at h
  ·
   rename_i hs
   simp only [Option.some.injEq, Prod.mk.injEq] at h
   obtain ⟨rfl, rfl, rfl⟩ := h
   have e1 : (a0_0 + a1_0 + (a0_1 + a1_1) / 18446744073709551616) / 18446744073709551616 = 0 := by omega
   have e2 : (a0_0 + a1_0 + (a0_1 + a1_1) / 18446744073709551616) % 18446744073709551616 = a0_0 + a1_0 + (a0_1 + a1_1) / 18446744073709551616 := by omega
   have E2 := aM' e2
   have hc2 : ∀ w : World, (callFunc 103 #[.int .u64 a0_0, .int .u64 a1_0, .int .u64 ((a0_1 + a1_1) / 18446744073709551616)]).run Tryd.prog w = .ok (.value (.tuple #[.int .u64 (a0_0 + a1_0 + (a0_1 + a1_1) / 18446744073709551616), .int .u64 0])) w := by
    intro w; rw [hc w, e1, e2]
   clear hc e1 e2 h00 h01 h02 h03 h10 h11 h12 h13 hs
   go_enter Tryd.func61, Tryd.ntmps61
   go_wp2_with fail
   refine bodyPost_ret (v := .tuple #[.agg #[.int .u64 (a0_0 + a1_0 + (a0_1 + a1_1) / 18446744073709551616), .int .u64 ((a0_1 + a1_1) % 18446744073709551616)], .int .i64 0]) ?_ rfl ⟨rfl, ?_⟩
   ·
    simp [results, Tryd.results61, go_sem, hu]
   ·
    repeat (with_reducible first | exact Below.refl _ _ | apply below_alloc | refine below_set ?_ (Nat.le_refl _))
  ·
   rename_i hs
   simp only [Option.some.injEq, Prod.mk.injEq] at h
   obtain ⟨rfl, rfl, rfl⟩ := h
   have e1 : (a0_0 + a1_0 + (a0_1 + a1_1) / 18446744073709551616) / 18446744073709551616 = 1 := by omega
   have hc2 : ∀ w : World, (callFunc 103 #[.int .u64 a0_0, .int .u64 a1_0, .int .u64 ((a0_1 + a1_1) / 18446744073709551616)]).run Tryd.prog w = .ok (.value (.tuple #[.int .u64 ((a0_0 + a1_0 + (a0_1 + a1_1) / 18446744073709551616) % 18446744073709551616), .int .u64 1])) w := by
    intro w; rw [hc w, e1]
   clear hc e1 h00 h01 h02 h03 h10 h11 h12 h13 hs
   go_enter Tryd.func61, Tryd.ntmps61
   go_wp2_with fail
   refine bodyPost_ret (v := .tuple #[.agg #[.int .u64 0, .int .u64 0], .int .i64 10]) ?_ rfl ⟨rfl, ?_⟩
   ·
    simp [results, Tryd.results61, go_sem, hu]
   ·
    repeat (with_reducible first | exact Below.refl _ _ | apply below_alloc | refine below_set ?_ (Nat.le_refl _))
 ·
  cases h
end Go.Proofs.YtijfifphcchbbaaDoor.P
namespace Go.Proofs.YtijfifphcchbbaaDoor.P
open Go.RowKit Go.Proofs.YtijfifphcchbbaaDoorW.PrintWords Go.Proofs.YtijfifphcchbbaaDoorW.PrintLast Go.Proofs.YtijfifphcchbbaaDoorW.PrintMore
set_option linter.unusedVariables false
set_option linter.unusedSimpArgs false
set_option linter.unnecessarySimpa false
theorem dig_l0_step {l r : List Int} {x4 hi lo : Int} (hx : 0 ≤ x4 ∧ x4 < 4) (h0 : 0 ≤ lo) (h1 : lo < 18446744073709551616) (hl : l.length < 1000)
  (h : Ev (fun k => paymasterref01_digits.l0 k (l ++ [lo % 65536]) (x4 + 1) hi (lo / 65536)) r) : Ev (fun k => paymasterref01_digits.l0 k l x4 hi lo) r := by
 refine Ev.step (f := fun k => paymasterref01_digits.l0 k (l ++ [lo % 65536]) (x4 + 1) hi (lo / 65536)) (fun k => ?_) h
 have e1 : Int.tmod lo 65536 = lo % 65536 := Int.tmod_eq_emod_of_nonneg h0
 have e2 : Int.tdiv lo 65536 = lo / 65536 := Int.tdiv_eq_ediv_of_nonneg h0
 rw [paymasterref01_digits.l0, if_pos hx.2, if_pos (by omega), e1, e2, wrap64_id (by omega) (by omega), wrapu64_id (by omega) (by omega)]
theorem dig_l1_step {l r : List Int} {x5 hi lo : Int} (hx : 0 ≤ x5 ∧ x5 < 4) (h0 : 0 ≤ hi) (h1 : hi < 18446744073709551616) (hl : l.length < 1000)
  (h : Ev (fun k => paymasterref01_digits.l1 k (l ++ [hi % 65536]) (x5 + 1) (hi / 65536) lo) r) : Ev (fun k => paymasterref01_digits.l1 k l x5 hi lo) r := by
 refine Ev.step (f := fun k => paymasterref01_digits.l1 k (l ++ [hi % 65536]) (x5 + 1) (hi / 65536) lo) (fun k => ?_) h
 have e1 : Int.tmod hi 65536 = hi % 65536 := Int.tmod_eq_emod_of_nonneg h0
 have e2 : Int.tdiv hi 65536 = hi / 65536 := Int.tdiv_eq_ediv_of_nonneg h0
 rw [paymasterref01_digits.l1, if_pos hx.2, if_pos (by omega), e1, e2, wrap64_id (by omega) (by omega), wrapu64_id (by omega) (by omega)]
def digsI (hi lo : Int) : List Int := [lo % 65536, lo / 65536 % 65536, lo / 65536 / 65536 % 65536, lo / 65536 / 65536 / 65536 % 65536, hi % 65536, hi / 65536 % 65536, hi / 65536 / 65536 % 65536, hi / 65536 / 65536 / 65536 % 65536]
theorem digits_ev (hi lo : Int) (h0 : 0 ≤ hi) (h1 : hi < 18446744073709551616) (l0 : 0 ≤ lo) (l1 : lo < 18446744073709551616) : Ev (fun k => paymasterref01_digits.f k hi lo) (digsI hi lo) := by
 unfold paymasterref01_digits.f
 refine dig_l0_step (by omega) l0 l1 (by simp) ?_
 refine dig_l0_step (by omega) (by omega) (by omega) (by simp) ?_
 refine dig_l0_step (by omega) (by omega) (by omega) (by simp) ?_
 refine dig_l0_step (by omega) (by omega) (by omega) (by simp) ?_
 refine Ev.step (f := fun k => paymasterref01_digits.l1 k ([] ++ [lo % 65536] ++ [lo / 65536 % 65536] ++ [lo / 65536 / 65536 % 65536] ++ [lo / 65536 / 65536 / 65536 % 65536]) 0 hi (lo / 65536 / 65536 / 65536 / 65536)) (fun k => by rw [paymasterref01_digits.l0, if_neg (by decide)]) ?_
 refine dig_l1_step (by omega) h0 h1 (by simp) ?_
 refine dig_l1_step (by omega) (by omega) (by omega) (by simp) ?_
 refine dig_l1_step (by omega) (by omega) (by omega) (by simp) ?_
 refine dig_l1_step (by omega) (by omega) (by omega) (by simp) ?_
 refine Ev.step (f := fun _ => some (digsI hi lo)) (fun k => by rw [paymasterref01_digits.l1, if_neg (by decide)]; rfl) (Ev.now _)
theorem num_hi {l : List Int} {i h lo : Int} {r : Int × Int × Bool} (hi : 4 ≤ i ∧ i < 8) (hl : i < (l.length : Int)) (b0 : 0 ≤ h) (b1 : h < 281474976710656) (d0 : 0 ≤ rd l i) (d1 : rd l i < 65536)
  (k : Ev (fun k => paymasterref01_number.l0 k l (i - 1) (h * 65536 + rd l i) lo) r) : Ev (fun k => paymasterref01_number.l0 k l i h lo) r := by
 refine Ev.step (f := fun k => paymasterref01_number.j1 k l i false h lo) (fun k => by rw [paymasterref01_number.l0, if_pos (by omega), if_neg (by omega)]) ?_
 refine Ev.step (f := fun k => paymasterref01_number.j2 k l i true h lo) (fun k => by rw [paymasterref01_number.j1, if_neg (by decide), if_pos hi.2, decide_eq_true (by omega)]) ?_
 refine Ev.step (f := fun k => paymasterref01_number.l0 k l (i - 1) (h * 65536 + rd l i) lo) (fun k => ?_) k
 rw [paymasterref01_number.j2, if_pos rfl, if_pos (by omega), if_pos hl, if_neg (by omega), wrap64_id (by omega) (by omega), wrapu64_id (x := h * 65536) (by omega) (by omega), wrapu64_id (by omega) (by omega)]
theorem num_lo {l : List Int} {i h lo : Int} {r : Int × Int × Bool} (hi : 0 ≤ i ∧ i < 4) (hl : i < (l.length : Int)) (b0 : 0 ≤ lo) (b1 : lo < 281474976710656) (d0 : 0 ≤ rd l i) (d1 : rd l i < 65536)
  (k : Ev (fun k => paymasterref01_number.l0 k l (i - 1) h (lo * 65536 + rd l i)) r) : Ev (fun k => paymasterref01_number.l0 k l i h lo) r := by
 refine Ev.step (f := fun k => paymasterref01_number.j1 k l i false h lo) (fun k => by rw [paymasterref01_number.l0, if_pos (by omega), if_neg (by omega)]) ?_
 refine Ev.step (f := fun k => paymasterref01_number.j2 k l i false h lo) (fun k => by rw [paymasterref01_number.j1, if_neg (by decide), if_pos (by omega), decide_eq_false (by omega)]) ?_
 refine Ev.step (f := fun k => paymasterref01_number.l0 k l (i - 1) h (lo * 65536 + rd l i)) (fun k => ?_) k
 rw [paymasterref01_number.j2, if_neg (by decide), if_pos (by omega), if_pos (by omega), if_pos hl, wrap64_id (by omega) (by omega), wrapu64_id (x := lo * 65536) (by omega) (by omega), wrapu64_id (by omega) (by omega)]
structure Dig (x : Int) : Prop where
 h0 : 0 ≤ x
 h1 : x < 65536
theorem number_ev (d0 d1 d2 d3 d4 d5 d6 d7 c : Int) (h0 : Dig d0) (h1 : Dig d1) (h2 : Dig d2) (h3 : Dig d3) (h4 : Dig d4) (h5 : Dig d5) (h6 : Dig d6) (h7 : Dig d7) :
  Ev (fun k => paymasterref01_number.f k [d0, d1, d2, d3, d4, d5, d6, d7, c]) (if c = 0 then (((d7 * 65536 + d6) * 65536 + d5) * 65536 + d4, ((d3 * 65536 + d2) * 65536 + d1) * 65536 + d0, true) else (0, 0, false)) := by
 have e8 : rd [d0, d1, d2, d3, d4, d5, d6, d7, c] 8 = c := rfl
 have e7 : rd [d0, d1, d2, d3, d4, d5, d6, d7, c] 7 = d7 := rfl
 have e6 : rd [d0, d1, d2, d3, d4, d5, d6, d7, c] 6 = d6 := rfl
 have e5 : rd [d0, d1, d2, d3, d4, d5, d6, d7, c] 5 = d5 := rfl
 have e4 : rd [d0, d1, d2, d3, d4, d5, d6, d7, c] 4 = d4 := rfl
 have e3 : rd [d0, d1, d2, d3, d4, d5, d6, d7, c] 3 = d3 := rfl
 have e2 : rd [d0, d1, d2, d3, d4, d5, d6, d7, c] 2 = d2 := rfl
 have e1 : rd [d0, d1, d2, d3, d4, d5, d6, d7, c] 1 = d1 := rfl
 have e0 : rd [d0, d1, d2, d3, d4, d5, d6, d7, c] 0 = d0 := rfl
 obtain ⟨⟨a0, b0⟩, ⟨a1, b1⟩, ⟨a2, b2⟩, ⟨a3, b3⟩, ⟨a4, b4⟩, ⟨a5, b5⟩, ⟨a6, b6⟩, ⟨a7, b7⟩⟩ := And.intro h0 (And.intro h1 (And.intro h2 (And.intro h3 (And.intro h4 (And.intro h5 (And.intro h6 h7))))))
 unfold paymasterref01_number.f
 have ew : wrap64 (([d0, d1, d2, d3, d4, d5, d6, d7, c].length : Int) - 1) = 8 := by rw [wrap64_id] <;> simp
 rw [ew]
 by_cases hc : c = 0
 ·
  rw [if_pos hc]
  refine Ev.step (f := fun k => paymasterref01_number.j1 k [d0, d1, d2, d3, d4, d5, d6, d7, c] 8 false 0 0) (fun k => ?_) ?_
  ·
   rw [paymasterref01_number.l0, if_pos (by omega), if_pos (by omega), if_pos (by omega), if_pos (by simp), e8, hc]; rfl
  refine Ev.step (f := fun k => paymasterref01_number.j2 k [d0, d1, d2, d3, d4, d5, d6, d7, c] 8 false 0 0) (fun k => by rw [paymasterref01_number.j1, if_neg (by decide), if_neg (by decide)]) ?_
  refine Ev.step (f := fun k => paymasterref01_number.l0 k [d0, d1, d2, d3, d4, d5, d6, d7, c] 7 0 0) (fun k => by rw [paymasterref01_number.j2, if_neg (by decide), if_neg (by decide), wrap64_id (by decide) (by decide)]; rfl) ?_
  refine num_hi (by omega) (by simp) (by omega) (by omega) (by rw [e7]; omega) (by rw [e7]; omega) ?_
  rw [e7]
  refine num_hi (by omega) (by simp) (by omega) (by omega) (by simp only [Int.reduceSub]; rw [e6]; omega) (by simp only [Int.reduceSub]; rw [e6]; omega) ?_
  simp only [Int.reduceSub]
  rw [e6]
  refine num_hi (by omega) (by simp) (by omega) (by omega) (by rw [e5]; omega) (by rw [e5]; omega) ?_
  simp only [Int.reduceSub]
  rw [e5]
  refine num_hi (by omega) (by simp) (by omega) (by omega) (by rw [e4]; omega) (by rw [e4]; omega) ?_
  simp only [Int.reduceSub]
  rw [e4]
  refine num_lo (by omega) (by simp) (by omega) (by omega) (by rw [e3]; omega) (by rw [e3]; omega) ?_
  simp only [Int.reduceSub]
  rw [e3]
  refine num_lo (by omega) (by simp) (by omega) (by omega) (by rw [e2]; omega) (by rw [e2]; omega) ?_
  simp only [Int.reduceSub]
  rw [e2]
  refine num_lo (by omega) (by simp) (by omega) (by omega) (by rw [e1]; omega) (by rw [e1]; omega) ?_
  simp only [Int.reduceSub]
  rw [e1]
  refine num_lo (by omega) (by simp) (by omega) (by omega) (by rw [e0]; omega) (by rw [e0]; omega) ?_
  simp only [Int.reduceSub]
  rw [e0]
  refine Ev.step (f := fun _ => some _) (fun k => by rw [paymasterref01_number.l0, if_neg (by decide)]) (ev_eq (Ev.now _) ?_)
  simp only [Int.zero_mul, Int.zero_add]
 ·
  rw [if_neg hc]
  refine Ev.step (f := fun k => paymasterref01_number.j1 k [d0, d1, d2, d3, d4, d5, d6, d7, c] 8 true 0 0) (fun k => ?_) ?_
  ·
   rw [paymasterref01_number.l0, if_pos (by omega), if_pos (by omega), if_pos (by omega), if_pos (by simp), e8, bne_iff_ne.2 hc]
  exact Ev.step (f := fun _ => some (0, 0, false)) (fun k => by rw [paymasterref01_number.j1, if_pos rfl]) (Ev.now _)
theorem add_step {x y l : List Int} {c i : Int} (d e : Int) {r : Int × Int × Int} (hi : 0 ≤ i ∧ i < 8) (hx : x.length = 8) (hy : y.length = 8) (hl : l.length < 1000) (ex : rd x i = d) (ey : rd y i = e) (hd : Dig d) (he : Dig e) (hc : 0 ≤ c ∧ c ≤ 1)
  (k : Ev (fun k => paymasterref01_Add.l0 k x y ((d + e + c) / 65536) (l ++ [(d + e + c) % 65536]) (i + 1)) r) : Ev (fun k => paymasterref01_Add.l0 k x y c l i) r := by
 obtain ⟨a0, b0⟩ := hd
 obtain ⟨a1, b1⟩ := he
 refine Ev.step (f := fun k => paymasterref01_Add.l0 k x y ((d + e + c) / 65536) (l ++ [(d + e + c) % 65536]) (i + 1)) (fun k => ?_) k
 rw [paymasterref01_Add.l0, if_pos hi.2, if_pos hi.1, if_pos (by omega), if_pos (by omega), if_pos (by omega), ex, ey, wrapu64_id (x := d + e) (by omega) (by omega), wrapu64_id (x := d + e + c) (by omega) (by omega), Int.tdiv_eq_ediv_of_nonneg (by omega), Int.tmod_eq_emod_of_nonneg (by omega), wrapu64_id (by omega) (by omega), wrap64_id (by omega) (by omega)]
def addI128 (a0 a1 b0 b1 : Int) : Int × Int × Int :=
 if a0 + b0 + (a1 + b1) / 18446744073709551616 < 18446744073709551616 then (a0 + b0 + (a1 + b1) / 18446744073709551616, (a1 + b1) % 18446744073709551616, 0) else (0, 0, 10)
theorem u128Add_eq (a0 a1 b0 b1 : Int) (ha0 : 0 ≤ a0 ∧ a0 < 18446744073709551616) (ha1 : 0 ≤ a1 ∧ a1 < 18446744073709551616) (hb0 : 0 ≤ b0 ∧ b0 < 18446744073709551616) (hb1 : 0 ≤ b1 ∧ b1 < 18446744073709551616) :
  u128_Add.f a0 a1 b0 b1 = some (addI128 a0 a1 b0 b1) := by
 unfold u128_Add.f addI128
 rw [if_pos ⟨⟨ha0, ha1⟩, hb0, hb1⟩]
 split <;> rfl
theorem dig_mod (x : Int) : Dig (x % 65536) := ⟨by omega, by omega⟩
theorem val4 (x : Int) (h0 : 0 ≤ x) (h1 : x < 18446744073709551616) : ((x / 65536 / 65536 / 65536 % 65536 * 65536 + x / 65536 / 65536 % 65536) * 65536 + x / 65536 % 65536) * 65536 + x % 65536 = x := by omega
theorem refAdd_ev (a0 a1 b0 b1 : Int) (ha0 : 0 ≤ a0 ∧ a0 < 18446744073709551616) (ha1 : 0 ≤ a1 ∧ a1 < 18446744073709551616) (hb0 : 0 ≤ b0 ∧ b0 < 18446744073709551616) (hb1 : 0 ≤ b1 ∧ b1 < 18446744073709551616) :
  Ev (fun k => paymasterref01_Add.f k a0 a1 b0 b1) (addI128 a0 a1 b0 b1) := by
 unfold paymasterref01_Add.f
 refine Ev.bind (digits_ev a0 a1 ha0.1 ha0.2 ha1.1 ha1.2) (Ev.bind (digits_ev b0 b1 hb0.1 hb0.2 hb1.1 hb1.2) ?_)
 have va0 := val4 a0 ha0.1 ha0.2
 have va1 := val4 a1 ha1.1 ha1.2
 have vb0 := val4 b0 hb0.1 hb0.2
 have vb1 := val4 b1 hb1.1 hb1.2
 unfold digsI
 have g0 := dig_mod a1
 have g1 := dig_mod (a1 / 65536)
 have g2 := dig_mod (a1 / 65536 / 65536)
 have g3 := dig_mod (a1 / 65536 / 65536 / 65536)
 have g4 := dig_mod a0
 have g5 := dig_mod (a0 / 65536)
 have g6 := dig_mod (a0 / 65536 / 65536)
 have g7 := dig_mod (a0 / 65536 / 65536 / 65536)
 have k0 := dig_mod b1
 have k1 := dig_mod (b1 / 65536)
 have k2 := dig_mod (b1 / 65536 / 65536)
 have k3 := dig_mod (b1 / 65536 / 65536 / 65536)
 have k4 := dig_mod b0
 have k5 := dig_mod (b0 / 65536)
 have k6 := dig_mod (b0 / 65536 / 65536)
 have k7 := dig_mod (b0 / 65536 / 65536 / 65536)
 generalize a1 % 65536 = x0 at *
 generalize a1 / 65536 % 65536 = x1 at *
 generalize a1 / 65536 / 65536 % 65536 = x2 at *
 generalize a1 / 65536 / 65536 / 65536 % 65536 = x3 at *
 generalize a0 % 65536 = x4 at *
 generalize a0 / 65536 % 65536 = x5 at *
 generalize a0 / 65536 / 65536 % 65536 = x6 at *
 generalize a0 / 65536 / 65536 / 65536 % 65536 = x7 at *
 generalize b1 % 65536 = y0 at *
 generalize b1 / 65536 % 65536 = y1 at *
 generalize b1 / 65536 / 65536 % 65536 = y2 at *
 generalize b1 / 65536 / 65536 / 65536 % 65536 = y3 at *
 generalize b0 % 65536 = y4 at *
 generalize b0 / 65536 % 65536 = y5 at *
 generalize b0 / 65536 / 65536 % 65536 = y6 at *
 generalize b0 / 65536 / 65536 / 65536 % 65536 = y7 at *
 have step : ∀ c d e : Int, Dig d → Dig e → 0 ≤ c ∧ c ≤ 1 → 0 ≤ (d + e + c) / 65536 ∧ (d + e + c) / 65536 ≤ 1 := fun c d e hd he hc => by have := hd.1; have := hd.2; have := he.1; have := he.2; omega
 have s0 : (0 : Int) ≤ 0 ∧ (0 : Int) ≤ 1 := by omega
 have s1 := step 0 x0 y0 g0 k0 s0
 have s2 := step _ x1 y1 g1 k1 s1
 have s3 := step _ x2 y2 g2 k2 s2
 have s4 := step _ x3 y3 g3 k3 s3
 have s5 := step _ x4 y4 g4 k4 s4
 have s6 := step _ x5 y5 g5 k5 s5
 have s7 := step _ x6 y6 g6 k6 s6
 refine add_step x0 y0 (by omega) rfl rfl (by simp) rfl rfl g0 k0 s0 ?_
 refine add_step x1 y1 (by omega) rfl rfl (by simp) rfl rfl g1 k1 s1 ?_
 refine add_step x2 y2 (by omega) rfl rfl (by simp) rfl rfl g2 k2 s2 ?_
 refine add_step x3 y3 (by omega) rfl rfl (by simp) rfl rfl g3 k3 s3 ?_
 refine add_step x4 y4 (by omega) rfl rfl (by simp) rfl rfl g4 k4 s4 ?_
 refine add_step x5 y5 (by omega) rfl rfl (by simp) rfl rfl g5 k5 s5 ?_
 refine add_step x6 y6 (by omega) rfl rfl (by simp) rfl rfl g6 k6 s6 ?_
 refine add_step x7 y7 (by omega) rfl rfl (by simp) rfl rfl g7 k7 s7 ?_
 clear step
 refine Ev.step (f := fun k => _) (fun k => by rw [paymasterref01_Add.l0, if_neg (by decide), if_pos (by simp)]) ?_
 refine Ev.bind (number_ev _ _ _ _ _ _ _ _ _ (dig_mod _) (dig_mod _) (dig_mod _) (dig_mod _) (dig_mod _) (dig_mod _) (dig_mod _) (dig_mod _)) ?_
 have qr : ∀ n : Int, ∃ q m : Int, n / 65536 = q ∧ n % 65536 = m ∧ n = q * 65536 + m ∧ 0 ≤ m ∧ m < 65536 := fun n => ⟨_, _, rfl, rfl, by omega, by omega, by omega⟩
 obtain ⟨q0, m0, hq0, hm0, e0, l0, u0⟩ := qr (x0 + y0 + 0)
 simp only [hq0, hm0] at s1 s2 s3 s4 s5 s6 s7 ⊢
 clear hq0 hm0
 obtain ⟨q1, m1, hq1, hm1, e1, l1, u1⟩ := qr (x1 + y1 + q0)
 simp only [hq1, hm1] at s2 s3 s4 s5 s6 s7 ⊢
 clear hq1 hm1
 obtain ⟨q2, m2, hq2, hm2, e2, l2, u2⟩ := qr (x2 + y2 + q1)
 simp only [hq2, hm2] at s3 s4 s5 s6 s7 ⊢
 clear hq2 hm2
 obtain ⟨q3, m3, hq3, hm3, e3, l3, u3⟩ := qr (x3 + y3 + q2)
 simp only [hq3, hm3] at s4 s5 s6 s7 ⊢
 clear hq3 hm3
 obtain ⟨q4, m4, hq4, hm4, e4, l4, u4⟩ := qr (x4 + y4 + q3)
 simp only [hq4, hm4] at s5 s6 s7 ⊢
 clear hq4 hm4
 obtain ⟨q5, m5, hq5, hm5, e5, l5, u5⟩ := qr (x5 + y5 + q4)
 simp only [hq5, hm5] at s6 s7 ⊢
 clear hq5 hm5
 obtain ⟨q6, m6, hq6, hm6, e6, l6, u6⟩ := qr (x6 + y6 + q5)
 simp only [hq6, hm6] at s7 ⊢
 clear hq6 hm6
 obtain ⟨q7, m7, hq7, hm7, e7, l7, u7⟩ := qr (x7 + y7 + q6)
 simp only [hq7, hm7]
 clear hq7 hm7
 have hq70 : 0 ≤ q7 := by have := g7.h0; have := k7.h0; omega
 have hlo : a1 + b1 = q3 * 18446744073709551616 + (((m3 * 65536 + m2) * 65536 + m1) * 65536 + m0) := by omega
 have hhi : a0 + b0 + q3 = q7 * 18446744073709551616 + (((m7 * 65536 + m6) * 65536 + m5) * 65536 + m4) := by omega
 have hL : 0 ≤ ((m3 * 65536 + m2) * 65536 + m1) * 65536 + m0 ∧ ((m3 * 65536 + m2) * 65536 + m1) * 65536 + m0 < 18446744073709551616 := by omega
 have hH : 0 ≤ ((m7 * 65536 + m6) * 65536 + m5) * 65536 + m4 ∧ ((m7 * 65536 + m6) * 65536 + m5) * 65536 + m4 < 18446744073709551616 := by omega
 generalize ((m3 * 65536 + m2) * 65536 + m1) * 65536 + m0 = L at *
 generalize ((m7 * 65536 + m6) * 65536 + m5) * 65536 + m4 = H at *
 have h4 : (a1 + b1) / 18446744073709551616 = q3 := by omega
 have h5 : (a1 + b1) % 18446744073709551616 = L := by omega
 clear hlo e0 e1 e2 e3 e4 e5 e6 e7 va0 va1 vb0 vb1 s0 s1 s2 s3 s4 s5 s6 s7 l0 l1 l2 l3 l4 l5 l6 l7 u0 u1 u2 u3 u4 u5 u6 u7
 unfold addI128
 rw [h4, h5]
 clear h4 h5
 by_cases hq : q7 = 0
 ·
  have hs : a0 + b0 + q3 = H := by rw [hhi, hq]; omega
  rw [hs, if_pos hH.2]
  exact Ev.some_ (fun k => by simp [hq])
 ·
  have hs : ¬ a0 + b0 + q3 < 18446744073709551616 := by omega
  rw [if_neg hs]
  exact Ev.some_ (fun k => by simp [hq])
end Go.Proofs.YtijfifphcchbbaaDoor.P
namespace Go.Proofs.YtijfifphcchbbaaDoor.P
open Go.RowKit Go.Proofs.YtijfifphcchbbaaDoorW.PrintWords Go.Proofs.YtijfifphcchbbaaDoorW.PrintLast Go.Proofs.YtijfifphcchbbaaDoorW.PrintMore
set_option linter.unusedVariables false
set_option linter.unusedSimpArgs false
set_option linter.unnecessarySimpa false
def sel (b : Bool) (v u : Value) : Value := match b with | true => v | false => u
theorem sel_true (v u : Value) : sel true v u = v := rfl
def rgNeeds (o : Oper) : List Nat := (o.after.toList.filter (fun e => Region.binds .any e)).map (fun e => e.on)
def rgOrd (ops : Array Oper) : Bool := (List.range ops.size).all fun i => match ops[i]? with
 | some o => (rgNeeds o).all (fun j => decide (j < i))
 | none => true
def upd (l : Nat → Bool) (i : Nat) : Nat → Bool := fun j => if j = i then true else l j
def rgUndone (n : Nat) (l : Nat → Bool) : Nat := (List.range n).countP (fun j => !l j)
theorem rgUndone_zero {n : Nat} {l : Nat → Bool} (h : rgUndone n l = 0) : ∀ i, i < n → l i = true := by
 intro i hi
 have := List.countP_eq_zero.1 h i (List.mem_range.2 hi)
 simpa using this
theorem countP_upd (l : Nat → Bool) (i : Nat) (hl : l i = false) : ∀ L : List Nat, L.Nodup → i ∈ L → L.countP (fun j => !upd l i j) + 1 = L.countP (fun j => !l j)
 | [], _, h => absurd h (List.not_mem_nil)
 | x :: L, hn, h => by
  rw [List.countP_cons, List.countP_cons]
  by_cases e : x = i
  ·
   subst e
   have hx : x ∉ L := (List.nodup_cons.1 hn).1
   have e1 : L.countP (fun j => !upd l x j) = L.countP (fun j => !l j) := by
    refine List.countP_congr (fun j hj => ?_)
    have : j ≠ x := fun e => hx (e ▸ hj)
    simp [upd, this]
   rw [e1]; simp [upd, hl]
  ·
   have := countP_upd l i hl L (List.nodup_cons.1 hn).2 ((List.mem_cons.1 h).resolve_left (fun e' => e e'.symm))
   have e2 : upd l i x = l x := by simp [upd, e]
   rw [e2]; omega
theorem rgUndone_upd {n i : Nat} {l : Nat → Bool} (hi : i < n) (hl : l i = false) : rgUndone n (upd l i) + 1 = rgUndone n l := countP_upd l i hl _ List.nodup_range (List.mem_range.2 hi)
section
variable {P : Program} {ops : Array Oper} {Q : Exit → Act → World → Prop}
def StepAt (P : Program) (ops : Array Oper) (Q : Exit → Act → World → Prop) (I : (Nat → Bool) → Act → World → Prop) (i : Nat) : Prop :=
 ∀ o, ops[i]? = some o → ∀ l a w, I l a w → l i = false → (∀ j ∈ rgNeeds o, l j = true) → if Region.wanted o (yielded ops a.tmps) = true then o.wp P a w (fun a' w' => I (upd l i) a' w') Q else I (upd l i) (a.put o.dst undef) w
theorem rg_any (I : (Nat → Bool) → Act → World → Prop) (hord : rgOrd ops = true) (hstep : ∀ i, i < ops.size → StepAt P ops Q I i) (hend : ∀ l a w, I l a w → (∀ i, i < ops.size → l i = true) → Q .normal a w) :
  ∀ (fuel : Nat) (arr : Array Bool) (a : Act) (w : World), arr.size = ops.size → I (fun j => arr.getD j false) a w → rgUndone ops.size (fun j => arr.getD j false) ≤ fuel → wpAny P .any ops Q fuel arr a w := by
 have hready : ∀ arr : Array Bool, arr.size = ops.size → Region.ready .any ops arr = [] → ∀ i, i < ops.size → arr.getD i false = true := by
  intro arr hs hr i
  induction i using Nat.strongRecOn with
  | ind i ih =>
   intro hi
   cases hb : arr.getD i false with
   | true => rfl
   | false =>
    exfalso
    have ho : ops[i]? = some ops[i] := Array.getElem?_eq_getElem hi
    have hall : (rgNeeds ops[i]).all (fun j => decide (j < i)) = true := by
     have := List.all_eq_true.1 hord i (List.mem_range.2 hi)
     simp only [ho] at this
     exact this
    have hmem : i ∈ Region.ready .any ops arr := by
     unfold Region.ready
     rw [List.mem_filter]
     refine ⟨List.mem_range.2 hi, ?_⟩
     have h1 : arr.getD i true = false := by
      simp only [Array.getD_eq_getD_getElem?] at hb ⊢
      rw [Array.getElem?_eq_getElem (by omega)] at hb ⊢
      simpa using hb
     simp only [h1, Bool.not_false, Bool.true_and, ho, Option.map_some, Option.getD_some]
     rw [← Array.all_toList, List.all_eq_true]
     intro e he
     cases hbd : Region.binds .any e with
     | false => rfl
     | true =>
      have hj : e.on ∈ rgNeeds ops[i] := List.mem_map.2 ⟨e, List.mem_filter.2 ⟨he, hbd⟩, rfl⟩
      have hlt : e.on < i := by simpa using List.all_eq_true.1 hall e.on hj
      rw [ih e.on hlt (by omega)]; rfl
    rw [hr] at hmem
    exact absurd hmem (List.not_mem_nil)
 intro fuel
 induction fuel with
 | zero =>
  intro arr a w hs hI hu
  have hd := rgUndone_zero (Nat.le_zero.1 hu)
  refine ⟨?_, hend _ a w hI hd⟩
  unfold Region.ready
  rw [List.filter_eq_nil_iff]
  intro i hi
  have h1 := hd i (List.mem_range.1 hi)
  have h2 : arr.getD i true = true := by
   have hlt := List.mem_range.1 hi
   simp only [Array.getD_eq_getD_getElem?] at h1 ⊢
   rw [Array.getElem?_eq_getElem (by omega)] at h1 ⊢
   simpa using h1
  simp [h2]
 | succ fuel ih =>
  intro arr a w hs hI hu
  refine ⟨fun hr => hend _ a w hI (hready arr hs hr), fun i hi => ?_⟩
  unfold Region.ready at hi
  rw [List.mem_filter] at hi
  obtain ⟨hir, hi2⟩ := hi
  have hlt := List.mem_range.1 hir
  have ho : ops[i]? = some ops[i] := Array.getElem?_eq_getElem hlt
  simp only [ho, Option.map_some, Option.getD_some, Bool.and_eq_true, Bool.not_eq_true'] at hi2
  have hb : arr.getD i false = false := by
   have h1 := hi2.1
   simp only [Array.getD_eq_getD_getElem?] at h1 ⊢
   rw [Array.getElem?_eq_getElem (by omega)] at h1 ⊢
   simpa using h1
  have hn : ∀ j ∈ rgNeeds ops[i], arr.getD j false = true := by
   intro j hj
   obtain ⟨e, he, rfl⟩ := List.mem_map.1 hj
   obtain ⟨he1, he2⟩ := List.mem_filter.1 he
   have h3 := hi2.2
   rw [← Array.all_toList, List.all_eq_true] at h3
   have := h3 e he1
   rw [he2] at this
   simpa using this
  have hst := hstep i hlt _ ho _ a w hI hb hn
  have hK : ∀ a' w', I (upd (fun j => arr.getD j false) i) a' w' → wpAny P .any ops Q fuel (arr.setIfInBounds i true) a' w' := by
   intro a' w' h'
   have e : (fun j => (arr.setIfInBounds i true).getD j false) = upd (fun j => arr.getD j false) i := by
    funext j
    unfold upd
    simp only [Array.getD_eq_getD_getElem?]
    by_cases e : j = i
    ·
     subst e
     rw [if_pos rfl, Array.getElem?_setIfInBounds_self_of_lt (by omega)]; rfl
    ·
     rw [if_neg e, Array.getElem?_setIfInBounds_ne (fun h => e h.symm)]
   refine ih _ a' w' (by simpa using hs) (by rw [e]; exact h') ?_
   rw [e]
   have := rgUndone_upd (l := fun j => arr.getD j false) hlt hb
   omega
  unfold wpOp
  rw [ho]
  dsimp only
  split
  ·
   rename_i hw
   rw [if_pos hw] at hst
   exact .inl (Oper.wp_mono hK hst)
  ·
   rename_i hw
   rw [if_neg hw] at hst
   exact hK _ _ hst
theorem region_inv {id : Nat} {a : Act} {w : World} (I : (Nat → Bool) → Act → World → Prop) (n : Nat) (hm : P.follows .mixedOrders = true) (hn : ops.size = n) (hord : rgOrd ops = true) (h0 : I (fun _ => false) a w.drew)
  (hend : ∀ l a w, I l a w → (∀ i, i < n → l i = true) → Q .normal a w) (hstep : ∀ i, i < n → StepAt P ops Q I i) : (Code.region id ops true).wp P Q a w := by
 subst hn
 refine wp_region_any hm (rg_any I hord hstep hend ops.size _ a _ (by simp) ?_ ?_)
 ·
  have e : (fun j => (Array.replicate ops.size false).getD j false) = fun _ => false := by
   funext j
   simp only [Array.getD_eq_getD_getElem?, Array.getElem?_replicate]
   split <;> rfl
  rw [e]; exact h0
 ·
  unfold rgUndone
  have := List.countP_le_length (p := fun j => !(Array.replicate ops.size false).getD j false) (l := List.range ops.size)
  simpa using this
theorem rg_cons {p : Nat → Prop} {n : Nat} (h : ∀ i, i < n → p i) (hn : p n) : ∀ i, i < n + 1 → p i := fun i hi => by
 by_cases e : i = n
 ·
  subst e; exact hn
 ·
  exact h i (by omega)
theorem rg_nil {p : Nat → Prop} : ∀ i, i < 0 → p i := fun i hi => absurd hi (Nat.not_lt_zero _)
theorem rg_step {I : (Nat → Bool) → Act → World → Prop} {i : Nat} {oi : Oper} (hi : ops[i]? = some oi)
  (h : ∀ l a w, I l a w → l i = false → (∀ j ∈ rgNeeds oi, l j = true) → if Region.wanted oi (yielded ops a.tmps) = true then oi.wp P a w (fun a' w' => I (upd l i) a' w') Q else I (upd l i) (a.put oi.dst undef) w) : StepAt P ops Q I i := by
 intro o ho
 rw [hi] at ho
 cases ho
 exact h
theorem rg_val {K : Act → World → Prop} {oi : Oper} {a : Act} {w w' : World} {v : Value} (hw : Region.wanted oi (yielded ops a.tmps) = true) (hrun : (execOp a.eval oi).run P w = .ok (.value v) w') (hK : K (a.put oi.dst v) w') :
  if Region.wanted oi (yielded ops a.tmps) = true then oi.wp P a w K Q else K (a.put oi.dst undef) w := by
 rw [if_pos hw]; unfold Oper.wp; rw [hrun]; exact hK
theorem rg_skip {K : Act → World → Prop} {oi : Oper} {a : Act} {w w' : World} (hw : Region.wanted oi (yielded ops a.tmps) = true) (hrun : (execOp a.eval oi).run P w = .ok .skip w') (hK : K (a.put oi.dst undef) w') :
  if Region.wanted oi (yielded ops a.tmps) = true then oi.wp P a w K Q else K (a.put oi.dst undef) w := by
 rw [if_pos hw]; unfold Oper.wp; rw [hrun]; exact hK
theorem rg_call {K : Act → World → Prop} {oi : Oper} {a : Act} {w : World} {f : FuncId} {args : Array Value} (hw : Region.wanted oi (yielded ops a.tmps) = true) (hrun : (execOp a.eval oi).run P w = .ok (.enter f args) w)
  (h : Calls P f args w fun e w' => ∃ v, e = .returned v ∧ K (a.put oi.dst v) w') :
  if Region.wanted oi (yielded ops a.tmps) = true then oi.wp P a w K Q else K (a.put oi.dst undef) w := by
 rw [if_pos hw]; unfold Oper.wp; rw [hrun]
 exact h.mono fun e w' ⟨v, he, hk⟩ => by subst he; exact hk
theorem rg_not {K : Act → World → Prop} {oi : Oper} {a : Act} {w : World} (hw : Region.wanted oi (yielded ops a.tmps) = false) (hK : K (a.put oi.dst undef) w) :
  if Region.wanted oi (yielded ops a.tmps) = true then oi.wp P a w K Q else K (a.put oi.dst undef) w := by
 rw [if_neg (by rw [hw]; decide)]; exact hK
end
end Go.Proofs.YtijfifphcchbbaaDoor.P
namespace Go.Proofs.YtijfifphcchbbaaDoor.P
open Go.RowKit Go.Proofs.YtijfifphcchbbaaDoorW.PrintWords Go.Proofs.YtijfifphcchbbaaDoorW.PrintLast Go.Proofs.YtijfifphcchbbaaDoorW.PrintMore
set_option linter.unusedVariables false
set_option linter.unusedSimpArgs false
set_option linter.unnecessarySimpa false
attribute [local go_sem] sel_true
structure NtS (w W : World) (l r : SNode) : Prop where
 hB : Below w.heap.size w W
 h0 : W.heap[w.heap.size]? = some (.cells #[.string l.f0, .int .u64 l.f1.f0, .int .u64 l.f1.f1] 28 (0, 0))
 h1 : W.heap[w.heap.size + 1]? = some (.cells #[.string r.f0, .int .u64 r.f1.f0, .int .u64 r.f1.f1] 28 (0, 0))
theorem NtS.below {w W W' : World} {l r : SNode} (h : NtS w W l r) (hb : Below W.heap.size W W') : NtS w W' l r := ⟨h.hB.trans (hb.mono h.hB.size), blk_below h.h0 hb, blk_below h.h1 hb⟩
end Go.Proofs.YtijfifphcchbbaaDoor.P
namespace Go.Proofs.YtijfifphcchbbaaDoor.P
open Go.RowKit Go.Proofs.YtijfifphcchbbaaDoorW.PrintWords Go.Proofs.YtijfifphcchbbaaDoorW.PrintLast Go.Proofs.YtijfifphcchbbaaDoorW.PrintMore
attribute [local go_sem] max2_int min2_int max_two min_two max_three min_three max_four min_four-- for this text's walks alone
set_option linter.unusedVariables false
set_option linter.unusedSimpArgs false
def node_Join.T6 : Bool × List (List Nat × List Nat) := (true, [([], []), ([], []), ([], []), ([1, 2], [1, 2]), ([0, 3, 3], [0, 3]), ([], []), ([4, 5], [4, 5]), ([6, 4, 0, 1, 2, 3, 4, 5, 6], [6]), ([7, 0, 1, 2, 3, 4, 5, 6, 7], [])])
def node_Join.B6 : List Nat := [0, 0, 0, 6, 15, 0, 63, 127, 255]
theorem node_Join.tab6 : rtab .any (opsOf Tryd.f21 6) = node_Join.T6 := by kernel_rfl
theorem node_Join.bits6 : waitsOk node_Join.T6.2 node_Join.B6 = true := by kernel_rfl
end Go.Proofs.YtijfifphcchbbaaDoor.P
namespace Go.Proofs.YtijfifphcchbbaaDoor.P
open Go.RowKit Go.Proofs.YtijfifphcchbbaaDoorW.PrintWords Go.Proofs.YtijfifphcchbbaaDoorW.PrintLast Go.Proofs.YtijfifphcchbbaaDoorW.PrintMore
set_option linter.unusedVariables false
set_option linter.unusedSimpArgs false
set_option linter.unnecessarySimpa false
abbrev nodeV (n : SNode) : Value := .agg #[.string n.f0, .int .u64 n.f1.f0, .int .u64 n.f1.f1]
end Go.Proofs.YtijfifphcchbbaaDoor.P
namespace Go.Proofs.YtijfifphcchbbaaDoor.P
open Go.RowKit Go.Proofs.YtijfifphcchbbaaDoorW.PrintWords Go.Proofs.YtijfifphcchbbaaDoorW.PrintLast Go.Proofs.YtijfifphcchbbaaDoorW.PrintMore
set_option linter.unusedVariables false
set_option linter.unusedSimpArgs false
set_option linter.unnecessarySimpa false
attribute [local go_sem] Oper.semAt_some
def KeepS (S : Nat → Prop) (W W' : World) : Prop := ∀ k, S k → W'.heap[k]? = W.heap[k]?
theorem KeepS.trans {S : Nat → Prop} {A B C : World} (h : KeepS S A B) (k : KeepS S B C) : KeepS S A C := fun i hi => (k i hi).trans (h i hi)
theorem KeepS.alloc {S : Nat → Prop} {W w : World} (h : KeepS S W w) (hlt : ∀ k, S k → k < W.heap.size) (v : Obj) : KeepS S W (w.alloc v).drew := fun k hk => by
 have h1 := h k hk
 have h2 : k < w.heap.size := by
  rw [Array.getElem?_eq_getElem (hlt k hk)] at h1
  exact (Array.getElem?_eq_some_iff.1 h1).1
 exact ((World.grownBy_alloc w v none).block k h2 (by simp)).trans h1
end Go.Proofs.YtijfifphcchbbaaDoor.P
namespace Go.Proofs.YtijfifphcchbbaaDoor.P
open Go.RowKit Go.Proofs.YtijfifphcchbbaaDoorW.PrintWords Go.Proofs.YtijfifphcchbbaaDoorW.PrintLast Go.Proofs.YtijfifphcchbbaaDoorW.PrintMore
set_option linter.unusedVariables false
set_option linter.unusedSimpArgs false
set_option linter.unnecessarySimpa false
theorem ext_ext (t : ByteArray) (a i j : Nat) (h : a + j ≤ t.size) : (t.extract a t.size).extract i j = t.extract (a + i) (a + j) := by
 rw [ByteArray.extract_extract]
 congr 1
 omega
theorem chainI_front (t : ByteArray) (s : S8) : ∀ n, 64 * (n + 1) ≤ t.size → chainI s t (n + 1) = chainI (nextI s (t.extract 0 64)) (t.extract 64 t.size) n
 | 0, h => rfl
 | n + 1, h => by
  rw [chainI, chainI_front t s n (by omega), chainI, ext_ext t 64 _ _ (by omega), show 64 + 64 * n = 64 * (n + 1) by omega, show 64 + (64 * n + 64) = 64 * (n + 1) + 64 by omega]
theorem eat_blksN : ∀ (n : Nat) (t : ByteArray), t.size / 64 = n → ∀ r : Run, (blksN n t).foldl eat r = ⟨chainI r.s t n, t.extract (64 * n) t.size, r.n⟩
 | 0, t, h, r => by
  simp only [blksN, List.foldl_cons, List.foldl_nil, eat, chainI]
  simp
 | n + 1, t, h, r => by
  have h64 : 64 * (n + 1) ≤ t.size := by omega
  have hs : (t.extract 64 t.size).size = t.size - 64 := by rw [ByteArray.size_extract]; omega
  rw [blksN, List.foldl_cons, eat_blksN n _ (by rw [hs]; omega)]
  simp only [eat, if_true]
  rw [chainI_front t r.s n h64, hs, ext_ext t 64 _ _ (by omega), show 64 + 64 * n = 64 * (n + 1) by omega, show 64 + (t.size - 64) = t.size by omega]
def ran (t : ByteArray) : Run := ⟨chainI firstI t (t.size / 64), t.extract (64 * (t.size / 64)) t.size, (t.size : Int)⟩
theorem chainI_append (s : S8) (t u : ByteArray) : ∀ n, 64 * n ≤ t.size → chainI s (t ++ u) n = chainI s t n
 | 0, _ => rfl
 | n + 1, h => by
  rw [chainI, chainI, chainI_append s t u n (by omega), ByteArray.extract_append]
  have : u.extract (64 * n - t.size) (64 * n + 64 - t.size) = ByteArray.empty := by
   rw [show 64 * n - t.size = 0 by omega, show 64 * n + 64 - t.size = 0 by omega]; simp
  rw [this, ByteArray.append_empty]
theorem chainI_plus (s : S8) (t : ByteArray) (a : Nat) : ∀ n, 64 * (a + n) ≤ t.size → chainI (chainI s t a) (t.extract (64 * a) t.size) n = chainI s t (a + n)
 | 0, _ => rfl
 | n + 1, h => by
  rw [chainI, chainI_plus s t a n (by omega), ← Nat.add_assoc, chainI, ext_ext t (64 * a) _ _ (by omega), show 64 * a + 64 * n = 64 * (a + n) by omega, show 64 * a + (64 * n + 64) = 64 * (a + n) + 64 by omega]
theorem ext_over (t : ByteArray) (i j : Nat) (h : t.size ≤ j) : t.extract i j = t.extract i t.size := by
 apply ByteArray.ext
 rw [ByteArray.data_extract, ByteArray.data_extract]
 rcases Nat.lt_or_eq_of_le h with h | h
 ·
  exact Array.extract_of_size_lt h
 ·
  rw [← h]
theorem ext_cat (t u : ByteArray) (a : Nat) (h : a ≤ t.size) : t.extract a t.size ++ u = (t ++ u).extract a (t ++ u).size := by
 rw [ByteArray.extract_append, ByteArray.size_append, ext_over t a (t.size + u.size) (by omega), show a - t.size = 0 by omega, show t.size + u.size - t.size = u.size by omega]
 rw [show u.extract 0 u.size = u by simp]
theorem takeI_ran (t u : ByteArray) (h : t.size + u.size < 18446744073709551616) : takeI (ran t) u = ran (t ++ u) := by
 have ha : 64 * (t.size / 64) ≤ t.size := by omega
 have hs : (t ++ u).size = t.size + u.size := ByteArray.size_append
 have hc := ext_cat t u (64 * (t.size / 64)) ha
 have hz : ((t ++ u).extract (64 * (t.size / 64)) (t ++ u).size).size = t.size + u.size - 64 * (t.size / 64) := by rw [ByteArray.size_extract, hs]; omega
 unfold takeI ran
 rw [hc, blks, eat_blksN _ _ rfl]
 rw [← chainI_append firstI t u _ ha, chainI_plus firstI (t ++ u) (t.size / 64) _ (by rw [hz, hs]; omega), hz, hs, ← hs, ext_ext _ _ _ _ (by rw [hs]; omega), hs]
 have e1 : t.size / 64 + (t.size + u.size - 64 * (t.size / 64)) / 64 = (t.size + u.size) / 64 := by omega
 have e2 : 64 * (t.size / 64) + 64 * ((t.size + u.size - 64 * (t.size / 64)) / 64) = 64 * ((t.size + u.size) / 64) := by omega
 have e3 : 64 * (t.size / 64) + (t.size + u.size - 64 * (t.size / 64)) = t.size + u.size := by omega
 have e4 : IntKind.u64.wrap ((t.size : Int) + (u.size : Int)) = ((t.size + u.size : Nat) : Int) := by rw [IntKind.wrap_u64]; omega
 rw [e1, e2, e3, e4]
theorem newRun_ran : newRun = ran ByteArray.empty := rfl
theorem ran_sum (t : ByteArray) (h : t.size < 1000000000000) : (ran t).sum = refSumI t := by
 have hp : (padI (t.size : Int)).size ≤ 72 := by rw [padI_size]; unfold padZ; omega
 rw [Run.sum, show (ran t).n = (t.size : Int) from rfl, takeI_ran t _ (by omega)]
 rfl
theorem sumI_ref (t : ByteArray) (h : t.size < 1000000000000) : sumI t = refSumI t := by
 have e : takeI newRun t = ran t := by
  rw [newRun_ran, takeI_ran _ _ (by show 0 + t.size < _; omega), ByteArray.empty_append]
 rw [sumI, e, ran_sum t h]
end Go.Proofs.YtijfifphcchbbaaDoor.P
namespace Go.Proofs.YtijfifphcchbbaaDoor.P
open Go.RowKit Go.Proofs.YtijfifphcchbbaaDoorW.PrintWords Go.Proofs.YtijfifphcchbbaaDoorW.PrintLast Go.Proofs.YtijfifphcchbbaaDoorW.PrintMore
set_option linter.unusedVariables false
set_option linter.unusedSimpArgs false
set_option linter.unnecessarySimpa false
structure OkU (u : SU128) : Prop where
 h0 : 0 ≤ u.f0 ∧ u.f0 < 18446744073709551616
 h1 : 0 ≤ u.f1 ∧ u.f1 < 18446744073709551616
def dgI (w : Int) (t : ByteArray) : ByteArray := (refSumI t).extract 0 w.toNat
theorem refSumI_len (t : ByteArray) : (refSumI t).size = 32 := by
 rw [refSumI, digestI, strOfNums_size, digL_length]
theorem tagDigest_eq (w : Int) (t : ByteArray) (h0 : 1 ≤ w) (h1 : w ≤ 32) (ht : t.size ≤ 100000000) : tag_Digest.f w t = some (dgI w t) := by
 have e : sha_Sum.f t = some (refSumI t) := by rw [sha_Sum.f, if_pos (by omega), sumI_ref t (by omega)]
 unfold tag_Digest.f tag_MayWidth.f
 rw [if_pos h0]
 simp only [Option.bind_some, decide_eq_true h1, if_true, e]
 rw [if_pos (by omega), if_pos (by rw [refSumI_len]; omega)]
 rfl
theorem refDigest_eq (w : Int) (t : ByteArray) (h0 : 1 ≤ w) (h1 : w ≤ 32) (ht : t.size ≤ 100000000) : paymasterref07_Digest.f w t = some (dgI w t) := by
 have e : ref05_Sum.f t = some (refSumI t) := by rw [ref05_Sum.f, if_pos (by omega)]
 unfold paymasterref07_Digest.f paymasterref07_MayWidth.f
 rw [if_pos h0]
 simp only [Option.bind_some, decide_eq_true h1, if_true, e]
 rw [if_pos (by omega), if_pos (by rw [refSumI_len]; omega)]
 rfl
end Go.Proofs.YtijfifphcchbbaaDoor.P
namespace Go.Proofs.YtijfifphcchbbaaDoor.P
open Go.RowKit Go.Proofs.YtijfifphcchbbaaDoorW.PrintWords Go.Proofs.YtijfifphcchbbaaDoorW.PrintLast Go.Proofs.YtijfifphcchbbaaDoorW.PrintMore
set_option linter.unusedVariables false
set_option linter.unusedSimpArgs false
set_option linter.unnecessarySimpa false
attribute [local go_sem] Oper.semAt_some
abbrev nodeA (n : SNode) : Array Value := #[.string n.f0, .int .u64 n.f1.f0, .int .u64 n.f1.f1]
structure Clim (w : World) (wd : Int) (st r2 : SNode) (r3 : Int) (W : World) : Prop where
 h0 : W.heap[w.heap.size]? = some (.cells #[.int .i64 wd] 3 (0, 0))
 h1 : W.heap[w.heap.size + 1]? = some (.cells (nodeA st) 28 (0, 0))
 h2 : W.heap[w.heap.size + 1 + 1]? = some (.cells (nodeA r2) 28 (0, 0))
 h3 : W.heap[w.heap.size + 1 + 1 + 1]? = some (.cells #[.int .i64 r3] 29 (0, 0))
 hB : Below w.heap.size w W
theorem Clim.lt {w W : World} {wd r3 : Int} {st r2 : SNode} (h : Clim w wd st r2 r3 W) : w.heap.size + 1 + 1 + 1 < W.heap.size := blk_lt h.h3
theorem Clim.below {w W W' : World} {wd r3 : Int} {st r2 : SNode} (h : Clim w wd st r2 r3 W) (hb : Below W.heap.size W W') : Clim w wd st r2 r3 W' :=
 ⟨blk_below h.h0 hb, blk_below h.h1 hb, blk_below h.h2 hb, blk_below h.h3 hb, h.hB.trans (hb.mono h.hB.size)⟩
theorem Clim.own {w X Y : World} {wd r3 : Int} {st r2 : SNode} {B : Nat} {row : Option Nat} (h : Clim w wd st r2 r3 X) (hg : X.grownBy Y row) (hlt : w.heap.size + 1 + 1 + 1 < B) (hr : ∀ r, row = some r → B ≤ r) : Clim w wd st r2 r3 Y := by
 have hl := h.lt
 have hk : ∀ k, k ≤ w.heap.size + 1 + 1 + 1 → Y.heap[k]? = X.heap[k]? := fun k hk => hg.block k (by omega) (fun e => by have := hr k e.symm; omega)
 exact ⟨(hk _ (by omega)).trans h.h0, (hk _ (by omega)).trans h.h1, (hk _ (by omega)).trans h.h2, (hk _ (by omega)).trans h.h3, ⟨hg.os.trans h.hB.os, hg.tape.trans h.hB.tape, hg.output.trans h.hB.output, Nat.le_trans h.hB.size hg.size, fun i hi => (hk i (by omega)).trans (h.hB.block i hi)⟩⟩
theorem Clim.put {w W : World} {wd r3 : Int} {st r2 : SNode} (h : Clim w wd st r2 r3 W) (x : SNode) (e : Int) :
  Clim w wd st x e ((((W.setCell ⟨w.heap.size + 1 + 1, 0, none⟩ (.string x.f0)).setCell ⟨w.heap.size + 1 + 1, 1, none⟩ (.int .u64 x.f1.f0)).setCell ⟨w.heap.size + 1 + 1, 2, none⟩ (.int .u64 x.f1.f1)).setCell ⟨w.heap.size + 1 + 1 + 1, 0, none⟩ (.int .i64 e)) := by
 have a1 := blk_put (cs' := nodeA ⟨x.f0, r2.f1⟩) h.h2 0 (.string x.f0) rfl
 have a2 := blk_put (cs' := nodeA ⟨x.f0, ⟨x.f1.f0, r2.f1.f1⟩⟩) a1 1 (.int .u64 x.f1.f0) rfl
 have a3 := blk_put (cs' := nodeA x) a2 2 (.int .u64 x.f1.f1) rfl
 exact ⟨blk_far (blk_far (blk_far (blk_far h.h0 (by (try dsimp only); omega) _) (by (try dsimp only); omega) _) (by (try dsimp only); omega) _) (by (try dsimp only); omega) _, blk_far (blk_far (blk_far (blk_far h.h1 (by (try dsimp only); omega) _) (by (try dsimp only); omega) _) (by (try dsimp only); omega) _) (by (try dsimp only); omega) _,
  blk_far a3 (by (try dsimp only); omega) _, blk_put (blk_far (blk_far (blk_far h.h3 (by (try dsimp only); omega) _) (by (try dsimp only); omega) _) (by (try dsimp only); omega) _) 0 (.int .i64 e) rfl,
  below_set (below_set (below_set (below_set h.hB (by (try dsimp only); omega)) (by (try dsimp only); omega)) (by (try dsimp only); omega)) (by (try dsimp only); omega)⟩
theorem Clim.step {w W : World} {wd r3 : Int} {st r2 : SNode} (h : Clim w wd st r2 r3 W) (x : SNode) :
  Clim w wd x r2 r3 (((W.setCell ⟨w.heap.size + 1, 0, none⟩ (.string x.f0)).setCell ⟨w.heap.size + 1, 1, none⟩ (.int .u64 x.f1.f0)).setCell ⟨w.heap.size + 1, 2, none⟩ (.int .u64 x.f1.f1)) := by
 have a1 := blk_put (cs' := nodeA ⟨x.f0, st.f1⟩) h.h1 0 (.string x.f0) rfl
 have a2 := blk_put (cs' := nodeA ⟨x.f0, ⟨x.f1.f0, st.f1.f1⟩⟩) a1 1 (.int .u64 x.f1.f0) rfl
 have a3 := blk_put (cs' := nodeA x) a2 2 (.int .u64 x.f1.f1) rfl
 exact ⟨blk_far (blk_far (blk_far h.h0 (by (try dsimp only); omega) _) (by (try dsimp only); omega) _) (by (try dsimp only); omega) _, a3, blk_far (blk_far (blk_far h.h2 (by (try dsimp only); omega) _) (by (try dsimp only); omega) _) (by (try dsimp only); omega) _, blk_far (blk_far (blk_far h.h3 (by (try dsimp only); omega) _) (by (try dsimp only); omega) _) (by (try dsimp only); omega) _,
  below_set (below_set (below_set h.hB (by (try dsimp only); omega)) (by (try dsimp only); omega)) (by (try dsimp only); omega)⟩
theorem put3 {W : World} {g : Nat} {z : SNode} (h : W.heap[g]? = some (.cells (nodeA z) 28 (0, 0))) (x : SNode) :
  (((W.setCell ⟨g, 0, none⟩ (.string x.f0)).setCell ⟨g, 1, none⟩ (.int .u64 x.f1.f0)).setCell ⟨g, 2, none⟩ (.int .u64 x.f1.f1)).heap[g]? = some (.cells (nodeA x) 28 (0, 0)) := by
 have a1 := blk_put (cs' := nodeA ⟨x.f0, z.f1⟩) h 0 (.string x.f0) rfl
 have a2 := blk_put (cs' := nodeA ⟨x.f0, ⟨x.f1.f0, z.f1.f1⟩⟩) a1 1 (.int .u64 x.f1.f0) rfl
 exact blk_put (cs' := nodeA x) a2 2 (.int .u64 x.f1.f1) rfl
theorem far3 {W : World} {g k : Nat} {o : Obj} (h : W.heap[k]? = some o) (hn : k ≠ g) (a b c : Value) : (((W.setCell ⟨g, 0, none⟩ a).setCell ⟨g, 1, none⟩ b).setCell ⟨g, 2, none⟩ c).heap[k]? = some o := by
 rw [Below.heap_setCell _ _ _ _ hn, Below.heap_setCell _ _ _ _ hn, Below.heap_setCell _ _ _ _ hn]
 exact h
theorem below3 {W V : World} (h : Below W.heap.size W V) {g : Nat} (hg : W.heap.size ≤ g) (a b c : Value) : Below W.heap.size W (((V.setCell ⟨g, 0, none⟩ a).setCell ⟨g, 1, none⟩ b).setCell ⟨g, 2, none⟩ c) :=
 below_set (below_set (below_set h hg) hg) hg
structure Two (W : World) (b12 b13 : Nat) (x s : SNode) (W' : World) : Prop where
 ne : b12 ≠ b13
 l12 : W.heap.size ≤ b12
 l13 : W.heap.size ≤ b13
 hB : Below W.heap.size W W'
 h12 : W'.heap[b12]? = some (.cells (nodeA x) 28 (0, 0))
 h13 : W'.heap[b13]? = some (.cells (nodeA s) 28 (0, 0))
theorem Two.put {W V : World} {b12 b13 : Nat} {x s : SNode} (h : Two W b12 b13 x s V) (x' s' : SNode) :
  Two W b12 b13 x' s' ((((((V.setCell ⟨b12, 0, none⟩ (.string x'.f0)).setCell ⟨b12, 1, none⟩ (.int .u64 x'.f1.f0)).setCell ⟨b12, 2, none⟩ (.int .u64 x'.f1.f1)).setCell ⟨b13, 0, none⟩ (.string s'.f0)).setCell ⟨b13, 1, none⟩ (.int .u64 s'.f1.f0)).setCell ⟨b13, 2, none⟩ (.int .u64 s'.f1.f1)) :=
 ⟨h.ne, h.l12, h.l13, below3 (below3 h.hB h.l12 _ _ _) h.l13 _ _ _, far3 (put3 h.h12 x') h.ne _ _ _, put3 (far3 h.h13 (Ne.symm h.ne) _ _ _) s'⟩
end Go.Proofs.YtijfifphcchbbaaDoor.P
namespace Go.Proofs.YtijfifphcchbbaaDoor.P
open Go.RowKit Go.Proofs.YtijfifphcchbbaaDoorW.PrintWords Go.Proofs.YtijfifphcchbbaaDoorW.PrintLast Go.Proofs.YtijfifphcchbbaaDoorW.PrintMore
set_option linter.unusedVariables false
set_option linter.unusedSimpArgs false
set_option linter.unnecessarySimpa false
structure SdI (w : World) (B wd : Nat) (W : World) (l r : SNode) (rest : ByteArray) : Prop where
 hB : Below w.heap.size w W
 hw : W.heap[w.heap.size]? = some (.cells #[.int .i64 (wd : Int)] 3 (0, 0))
 hl : W.heap[w.heap.size + 2]? = some (.cells (nodeA l) 28 (0, 0))
 hr : W.heap[w.heap.size + 3]? = some (.cells (nodeA r) 28 (0, 0))
 ok : W.heap[B]? = some (.cells #[.bool false] 4 (0, 0))
 rd : W.heap[B + 1]? = some (rdO rest)
 le : w.heap.size + 3 < B
theorem SdI.rest {w : World} {B wd : Nat} {W : World} {l r : SNode} {t t' : ByteArray} (h : SdI w B wd W l r t) : SdI w B wd (W.setCell ⟨B + 1, 0, none⟩ (.string t')) l r t' := by
 have := h.le
 exact ⟨h.hB.setCell (by show _ ≤ B + 1; omega) _, (Below.heap_setCell _ _ _ _ (by show _ ≠ B + 1; omega)).trans h.hw, (Below.heap_setCell _ _ _ _ (by show _ ≠ B + 1; omega)).trans h.hl, (Below.heap_setCell _ _ _ _ (by show _ ≠ B + 1; omega)).trans h.hr, (Below.heap_setCell _ _ _ _ (by show _ ≠ B + 1; omega)).trans h.ok, blk_put (cs' := #[.string t']) h.rd 0 (.string t') rfl, h.le⟩
theorem SdI.sum {w : World} {B wd : Nat} {W W' : World} {l r : SNode} {t t' : ByteArray} (h : SdI w B wd W l r t) (hb : Below (B + 1) W W') (hr : W'.heap[B + 1]? = some (rdO t')) : SdI w B wd W' l r t' := by
 have := h.le
 exact ⟨h.hB.trans (hb.mono (by omega)), (hb.block _ (by omega)).trans h.hw, (hb.block _ (by omega)).trans h.hl, (hb.block _ (by omega)).trans h.hr, (hb.block _ (by omega)).trans h.ok, hr, h.le⟩
theorem SdI.setL0 {w : World} {B wd : Nat} {W : World} {l r : SNode} {t : ByteArray} (h : SdI w B wd W l r t) (x : ByteArray) : SdI w B wd (W.setCell ⟨w.heap.size + 2, 0, none⟩ (.string x)) ⟨x, l.f1⟩ r t := by
 have := h.le
 exact ⟨h.hB.setCell (by show _ ≤ w.heap.size + 2; omega) _, (Below.heap_setCell _ _ _ _ (by show _ ≠ w.heap.size + 2; omega)).trans h.hw, blk_put (cs' := nodeA ⟨x, l.f1⟩) h.hl 0 (.string x) rfl, (Below.heap_setCell _ _ _ _ (by show _ ≠ w.heap.size + 2; omega)).trans h.hr, (Below.heap_setCell _ _ _ _ (by show _ ≠ w.heap.size + 2; omega)).trans h.ok, (Below.heap_setCell _ _ _ _ (by show _ ≠ w.heap.size + 2; omega)).trans h.rd, h.le⟩
theorem SdI.setR0 {w : World} {B wd : Nat} {W : World} {l r : SNode} {t : ByteArray} (h : SdI w B wd W l r t) (x : ByteArray) : SdI w B wd (W.setCell ⟨w.heap.size + 3, 0, none⟩ (.string x)) l ⟨x, r.f1⟩ t := by
 have := h.le
 exact ⟨h.hB.setCell (by show _ ≤ w.heap.size + 3; omega) _, (Below.heap_setCell _ _ _ _ (by show _ ≠ w.heap.size + 3; omega)).trans h.hw, (Below.heap_setCell _ _ _ _ (by show _ ≠ w.heap.size + 3; omega)).trans h.hl, blk_put (cs' := nodeA ⟨x, r.f1⟩) h.hr 0 (.string x) rfl, (Below.heap_setCell _ _ _ _ (by show _ ≠ w.heap.size + 3; omega)).trans h.ok, (Below.heap_setCell _ _ _ _ (by show _ ≠ w.heap.size + 3; omega)).trans h.rd, h.le⟩
theorem SdI.setL {w : World} {B wd : Nat} {W : World} {l r : SNode} {t : ByteArray} (h : SdI w B wd W l r t) (a b : Int) : SdI w B wd ((W.setCell ⟨w.heap.size + 2, 1, none⟩ (.int .u64 a)).setCell ⟨w.heap.size + 2, 2, none⟩ (.int .u64 b)) ⟨l.f0, ⟨a, b⟩⟩ r t := by
 have := h.le
 have f : ∀ k, k ≠ w.heap.size + 2 → ((W.setCell ⟨w.heap.size + 2, 1, none⟩ (.int .u64 a)).setCell ⟨w.heap.size + 2, 2, none⟩ (.int .u64 b)).heap[k]? = W.heap[k]? := fun k hk => (Below.heap_setCell _ _ _ _ hk).trans (Below.heap_setCell _ _ _ _ hk)
 have a1 := blk_put (cs' := nodeA ⟨l.f0, ⟨a, l.f1.f1⟩⟩) h.hl 1 (.int .u64 a) rfl
 exact ⟨(h.hB.setCell (by show _ ≤ w.heap.size + 2; omega) _).setCell (by show _ ≤ w.heap.size + 2; omega) _, (f _ (by omega)).trans h.hw, blk_put (cs' := nodeA ⟨l.f0, ⟨a, b⟩⟩) a1 2 (.int .u64 b) rfl, (f _ (by omega)).trans h.hr, (f _ (by omega)).trans h.ok, (f _ (by omega)).trans h.rd, h.le⟩
theorem SdI.setR {w : World} {B wd : Nat} {W : World} {l r : SNode} {t : ByteArray} (h : SdI w B wd W l r t) (a b : Int) : SdI w B wd ((W.setCell ⟨w.heap.size + 3, 1, none⟩ (.int .u64 a)).setCell ⟨w.heap.size + 3, 2, none⟩ (.int .u64 b)) l ⟨r.f0, ⟨a, b⟩⟩ t := by
 have := h.le
 have f : ∀ k, k ≠ w.heap.size + 3 → ((W.setCell ⟨w.heap.size + 3, 1, none⟩ (.int .u64 a)).setCell ⟨w.heap.size + 3, 2, none⟩ (.int .u64 b)).heap[k]? = W.heap[k]? := fun k hk => (Below.heap_setCell _ _ _ _ hk).trans (Below.heap_setCell _ _ _ _ hk)
 have a1 := blk_put (cs' := nodeA ⟨r.f0, ⟨a, r.f1.f1⟩⟩) h.hr 1 (.int .u64 a) rfl
 exact ⟨(h.hB.setCell (by show _ ≤ w.heap.size + 3; omega) _).setCell (by show _ ≤ w.heap.size + 3; omega) _, (f _ (by omega)).trans h.hw, (f _ (by omega)).trans h.hl, blk_put (cs' := nodeA ⟨r.f0, ⟨a, b⟩⟩) a1 2 (.int .u64 b) rfl, (f _ (by omega)).trans h.ok, (f _ (by omega)).trans h.rd, h.le⟩
theorem rest_size (t : ByteArray) (a : Nat) (h : a ≤ t.size) : (t.extract a t.size).size = t.size - a := by rw [ByteArray.size_extract]; omega
theorem rest_rest (t : ByteArray) (a b : Nat) (h : a ≤ t.size) : (t.extract a t.size).extract b (t.extract a t.size).size = t.extract (a + b) t.size := by
 rw [rest_size t a h, ByteArray.extract_extract]; congr 1; omega
theorem rest_take (t : ByteArray) (a b : Nat) (h : a + b ≤ t.size) : (t.extract a t.size).extract 0 b = t.extract a (a + b) := by
 rw [ByteArray.extract_extract]; congr 1; omega
theorem rest_bt (t : ByteArray) (a : Nat) (i : Nat) (h : a + i < t.size) : bt (t.extract a t.size) (i : Int) = bt t ((a + i : Nat) : Int) := by
 unfold bt
 rw [dif_pos (by rw [rest_size _ _ (by omega)]; omega), dif_pos (by omega)]
 simp only [Int.toNat_natCast, ByteArray.getElem_extract]
theorem rest_be (t : ByteArray) (a o : Nat) : ∀ n, a + o + n ≤ t.size → beI (t.extract a t.size) o n = beI t (a + o) n
 | 0, _ => rfl
 | n + 1, h => by
  unfold beI
  rw [rest_be t a o n (by omega), rest_bt t a (o + n) (by omega), Nat.add_assoc]
set_option maxRecDepth 100000 in
set_option maxHeartbeats 4000000 in
theorem sides1.calls (w : World) (B wd : Nat) (t : ByteArray) (W : World) (hI : SdI w B wd W ⟨⟨#[]⟩, ⟨0, 0⟩⟩ ⟨⟨#[]⟩, ⟨0, 0⟩⟩ t) :
  Calls Tryd.prog 71 #[.pointer (some ⟨B + 1, 0, none⟩), .pointer (some ⟨w.heap.size + 2, 0, none⟩), .pointer (some ⟨w.heap.size + 3, 0, none⟩), .pointer (some ⟨w.heap.size, 0, none⟩)] W fun e w' =>
   ((33 + 2 * wd ≤ t.size ∧ bt t 0 = 1) ∧ e = .returned (.tuple #[]) ∧ SdI w B wd w' ⟨t.extract 1 (1 + wd), ⟨beI t (1 + wd) 8, beI t (1 + wd + 8) 8⟩⟩ ⟨t.extract (1 + wd + 16) (1 + wd + 16 + wd), ⟨beI t (1 + wd + 16 + wd) 8, beI t (1 + wd + 16 + wd + 8) 8⟩⟩ (t.extract (1 + wd + 16 + wd + 16) t.size)) ∨ (¬ (33 + 2 * wd ≤ t.size ∧ bt t 0 = 1) ∧ e = shortP ∧ ∃ l r rest, SdI w B wd w' l r rest) := by
 have hu := Tryd.underlying28
 have hut := Tryd.underlying175
 have hus := Tryd.underlying125
 have i0 : ∀ (f0 f1 : Value) (w : World), (Instr.index 127 (.agg #[f0, f1]) (.int .i64 0)).run Tryd.prog w = .ok f0 w := fun _ _ _ => by kernel_rfl
 have i1 : ∀ (f0 f1 : Value) (w : World), (Instr.index 127 (.agg #[f0, f1]) (.int .i64 1)).run Tryd.prog w = .ok f1 w := fun _ _ _ => by kernel_rfl
 have HI := aM' hI
 clear hI
 by_cases c1 : t.size < 1
 ·
  have Q := aM' (number_short (B + 1) t W HI.out.rd c1)
  go_enter Tryd.func71, Tryd.ntmps71
  go_wp2_with fail
  refine Q.out.mono ?_
  rintro e w' ⟨rfl, rfl⟩
  go_wp2
  exact ⟨rfl, Or.inr ⟨by omega, rfl, _, _, _, HI.out⟩⟩
 have Q := aM' (number_ok (B + 1) t W HI.out.rd (by omega))
 have hI2 := HI.out.rest (t' := t.extract 1 t.size)
 by_cases c2 : bt t 0 = 1
 ·
  have b2 : (bt t 0 != 1) = false := by rw [c2]; rfl
  have C2 := aM' c2
  have C1 := aM' c1
  obtain ⟨W2, hW2⟩ : ∃ V, V = W.setCell ⟨B + 1, 0, none⟩ (.string (t.extract 1 t.size)) := ⟨_, rfl⟩
  rw [← hW2] at hI2 Q
  have I2 := aM' hI2
  clear c1 c2 hW2 hI2
  go_enter Tryd.func71, Tryd.ntmps71
  go_wp2_with fail
  refine Q.out.mono ?_
  rintro e w' ⟨rfl, rfl⟩
  go_wp2
  have G2 : Aside0 (1 ≤ t.size) := ⟨by have := C1.out; omega⟩
  refine wp_loop_rounds 3 ?_
  rw [rounds_succ]
  have z0 : w'.cell? ⟨w.heap.size, 0, none⟩ = some (.int .i64 (wd : Int)) := blk_cell I2.out.hw 0
  have es := rest_size t (1) G2.out
  by_cases hlt : t.size < 1 + wd
  ·
   have QS := aM' (take_short (B + 1) _ (wd : Int) w' I2.out.rd (by have := G2.out; omega))
   have HLT := aM' hlt
   clear es hlt
   go_wp2_with fail
   refine QS.out.mono ?_
   rintro e w'' ⟨rfl, rfl⟩
   go_wp2
   exact ⟨rfl, Or.inr ⟨fun h => by have := h.1; have := HLT.out; omega, rfl, _, _, _, I2.out⟩⟩
  have Ga0 : Aside0 (1 + wd ≤ t.size) := ⟨by omega⟩
  have hq := take_ok (B + 1) _ wd w' I2.out.rd (by have := Ga0.out; omega)
  have hI := I2.out.rest (t' := (t.extract (1) t.size).extract wd (t.extract (1) t.size).size)
  rw [rest_rest t (1) wd G2.out, rest_take t (1) wd Ga0.out] at hq
  rw [rest_rest t (1) wd G2.out] at hI
  obtain ⟨X, hX⟩ : ∃ X, X = w'.setCell ⟨B + 1, 0, none⟩ (.string (t.extract (1 + wd) t.size)) := ⟨_, rfl⟩
  rw [← hX] at hq hI
  have Qa0 := aM' hq
  have Ia0 := aM' hI
  clear hq hI hX es hlt
  go_wp2_with fail
  refine Qa0.out.mono ?_
  rintro e Va0 ⟨rfl, rfl⟩
  clear z0 Qa0
  have y0 := blk_cell Ia0.out.hl 0
  have yf := fun i => blk_frozen Ia0.out.hl i
  simp at y0
  go_wp2_with fail
  have hJ := Ia0.out.setL0 (t.extract (1) (1 + wd))
  obtain ⟨Vb0, hX⟩ : ∃ X, X = Va0.setCell ⟨w.heap.size + 2, 0, none⟩ (.string (t.extract (1) (1 + wd))) := ⟨_, rfl⟩
  rw [← hX] at hJ ⊢
  have J0 := aM' hJ
  clear hJ hX y0 yf
  have es := rest_size t (1 + wd) Ga0.out
  by_cases hlt : t.size < 1 + wd + 16
  ·
   have QS := aM' (rsum_short (B + 1) _ Vb0 J0.out.rd (by have := Ga0.out; omega))
   have HLT := aM' hlt
   clear es hlt
   refine QS.out.mono ?_
   rintro e w'' ⟨rfl, rfl⟩
   go_wp2
   exact ⟨rfl, Or.inr ⟨fun h => by have := h.1; have := HLT.out; omega, rfl, _, _, _, J0.out.sum (keeps_alloc (Nat.le_of_lt (blk_lt J0.out.rd)) _) (blk_alloc J0.out.rd _)⟩⟩
  have Gb0 : Aside0 (1 + wd + 16 ≤ t.size) := ⟨by omega⟩
  have hq := rsum_ok (B + 1) _ Vb0 J0.out.rd (by have := Gb0.out; omega)
  rw [rest_rest t (1 + wd) 16 Ga0.out, rest_be t (1 + wd) 0 8 (by have := Gb0.out; omega), rest_be t (1 + wd) 8 8 (by have := Gb0.out; omega), Nat.add_zero] at hq
  have Qb0 := aM' hq
  clear hq es hlt
  refine Qb0.out.mono ?_
  rintro e Vc0 ⟨rfl, hr, hb⟩
  have hI := J0.out.sum hb hr
  have Ic0 := aM' hI
  clear hr hb hI Qb0
  have y1 := blk_cell Ic0.out.hl 1
  have y2 := blk_cell Ic0.out.hl 2
  have yf := fun i => blk_frozen Ic0.out.hl i
  simp at y1 y2
  go_wp2
  have hJ := Ic0.out.setL (beI t (1 + wd) 8) (beI t (1 + wd + 8) 8)
  obtain ⟨Vd0, hX⟩ : ∃ X, X = (Vc0.setCell ⟨w.heap.size + 2, 1, none⟩ (.int .u64 (beI t (1 + wd) 8))).setCell ⟨w.heap.size + 2, 2, none⟩ (.int .u64 (beI t (1 + wd + 8) 8)) := ⟨_, rfl⟩
  rw [← hX] at hJ ⊢
  have Id0 := aM' hJ
  clear hJ hX y1 y2 yf
  rw [rounds_succ]
  have z0 : Vd0.cell? ⟨w.heap.size, 0, none⟩ = some (.int .i64 (wd : Int)) := blk_cell Id0.out.hw 0
  have es := rest_size t (1 + wd + 16) Gb0.out
  by_cases hlt : t.size < 1 + wd + 16 + wd
  ·
   have QS := aM' (take_short (B + 1) _ (wd : Int) Vd0 Id0.out.rd (by have := Gb0.out; omega))
   have HLT := aM' hlt
   clear es hlt
   go_wp2_with fail
   refine QS.out.mono ?_
   rintro e w'' ⟨rfl, rfl⟩
   go_wp2
   exact ⟨rfl, Or.inr ⟨fun h => by have := h.1; have := HLT.out; omega, rfl, _, _, _, Id0.out⟩⟩
  have Ga1 : Aside0 (1 + wd + 16 + wd ≤ t.size) := ⟨by omega⟩
  have hq := take_ok (B + 1) _ wd Vd0 Id0.out.rd (by have := Ga1.out; omega)
  have hI := Id0.out.rest (t' := (t.extract (1 + wd + 16) t.size).extract wd (t.extract (1 + wd + 16) t.size).size)
  rw [rest_rest t (1 + wd + 16) wd Gb0.out, rest_take t (1 + wd + 16) wd Ga1.out] at hq
  rw [rest_rest t (1 + wd + 16) wd Gb0.out] at hI
  obtain ⟨X, hX⟩ : ∃ X, X = Vd0.setCell ⟨B + 1, 0, none⟩ (.string (t.extract (1 + wd + 16 + wd) t.size)) := ⟨_, rfl⟩
  rw [← hX] at hq hI
  have Qa1 := aM' hq
  have Ia1 := aM' hI
  clear hq hI hX es hlt
  go_wp2_with fail
  refine Qa1.out.mono ?_
  rintro e Va1 ⟨rfl, rfl⟩
  clear z0 Qa1
  have y0 := blk_cell Ia1.out.hr 0
  have yf := fun i => blk_frozen Ia1.out.hr i
  simp at y0
  go_wp2_with fail
  have hJ := Ia1.out.setR0 (t.extract (1 + wd + 16) (1 + wd + 16 + wd))
  obtain ⟨Vb1, hX⟩ : ∃ X, X = Va1.setCell ⟨w.heap.size + 3, 0, none⟩ (.string (t.extract (1 + wd + 16) (1 + wd + 16 + wd))) := ⟨_, rfl⟩
  rw [← hX] at hJ ⊢
  have J1 := aM' hJ
  clear hJ hX y0 yf
  have es := rest_size t (1 + wd + 16 + wd) Ga1.out
  by_cases hlt : t.size < 1 + wd + 16 + wd + 16
  ·
   have QS := aM' (rsum_short (B + 1) _ Vb1 J1.out.rd (by have := Ga1.out; omega))
   have HLT := aM' hlt
   clear es hlt
   refine QS.out.mono ?_
   rintro e w'' ⟨rfl, rfl⟩
   go_wp2
   exact ⟨rfl, Or.inr ⟨fun h => by have := h.1; have := HLT.out; omega, rfl, _, _, _, J1.out.sum (keeps_alloc (Nat.le_of_lt (blk_lt J1.out.rd)) _) (blk_alloc J1.out.rd _)⟩⟩
  have Gb1 : Aside0 (1 + wd + 16 + wd + 16 ≤ t.size) := ⟨by omega⟩
  have hq := rsum_ok (B + 1) _ Vb1 J1.out.rd (by have := Gb1.out; omega)
  rw [rest_rest t (1 + wd + 16 + wd) 16 Ga1.out, rest_be t (1 + wd + 16 + wd) 0 8 (by have := Gb1.out; omega), rest_be t (1 + wd + 16 + wd) 8 8 (by have := Gb1.out; omega), Nat.add_zero] at hq
  have Qb1 := aM' hq
  clear hq es hlt
  refine Qb1.out.mono ?_
  rintro e Vc1 ⟨rfl, hr, hb⟩
  have hI := J1.out.sum hb hr
  have Ic1 := aM' hI
  clear hr hb hI Qb1
  have y1 := blk_cell Ic1.out.hr 1
  have y2 := blk_cell Ic1.out.hr 2
  have yf := fun i => blk_frozen Ic1.out.hr i
  simp at y1 y2
  have hJ := Ic1.out.setR (beI t (1 + wd + 16 + wd) 8) (beI t (1 + wd + 16 + wd + 8) 8)
  have Id1 := aM' hJ
  clear hJ
  go_wp2
  rw [rounds_succ]
  go_wp2
  go_end0
  exact Or.inl ⟨⟨by have := Gb1.out; omega, C2.out⟩, rfl, Id1.out⟩
 ·
  have b2 : (bt t 0 != 1) = true := by simp [c2]
  have C2 := aM' c2
  have I2 := aM' hI2
  clear c2 c1 hI2
  go_enter Tryd.func71, Tryd.ntmps71
  go_wp2_with fail
  refine Q.out.mono ?_
  rintro e w' ⟨rfl, rfl⟩
  go_wp2
  exact ⟨rfl, Or.inr ⟨fun h => C2.out h.2, rfl, _, _, _, I2.out⟩⟩
end Go.Proofs.YtijfifphcchbbaaDoor.P
namespace Go.Proofs.YtijfifphcchbbaaDoor.P
open Go.RowKit Go.Proofs.YtijfifphcchbbaaDoorW.PrintWords Go.Proofs.YtijfifphcchbbaaDoorW.PrintLast Go.Proofs.YtijfifphcchbbaaDoorW.PrintMore
set_option linter.unusedVariables false
set_option linter.unusedSimpArgs false
set_option linter.unnecessarySimpa false
def sideL (wd : Nat) (t : ByteArray) : SNode := ⟨t.extract 1 (1 + wd), ⟨beI t (1 + wd) 8, beI t (1 + wd + 8) 8⟩⟩
def sideR (wd : Nat) (t : ByteArray) : SNode := ⟨t.extract (1 + wd + 16) (1 + wd + 16 + wd), ⟨beI t (1 + wd + 16 + wd) 8, beI t (1 + wd + 16 + wd + 8) 8⟩⟩
abbrev zN : SNode := ⟨⟨#[]⟩, ⟨0, 0⟩⟩
def isTwo (wd : Int) (t : ByteArray) : Bool := decide ((1 ≤ wd ∧ wd ≤ 32) ∧ (t.size : Int) = 33 + 2 * wd ∧ bt t 0 = 1)
def SdR (w : World) (wd : Nat) (t : ByteArray) (o : Option ByteArray) (w' : World) : Prop :=
 Below w.heap.size w w' ∧ ∃ l r, w'.heap[w.heap.size + 2]? = some (.cells (nodeA l) 28 (0, 0)) ∧ w'.heap[w.heap.size + 3]? = some (.cells (nodeA r) 28 (0, 0)) ∧
  match o with
  | some rest => (33 + 2 * wd ≤ t.size ∧ bt t 0 = 1) ∧ l = sideL wd t ∧ r = sideR wd t ∧ rest = t.extract (1 + wd + 16 + wd + 16) t.size
  | none => ¬ (33 + 2 * wd ≤ t.size ∧ bt t 0 = 1)
structure SdW (w W : World) (wd lv pl : Int) (t : ByteArray) : Prop where
 hB : Below w.heap.size w W
 hw : W.heap[w.heap.size]? = some (.cells #[.int .i64 wd] 3 (0, 0))
 hs : W.heap[w.heap.size + 1]? = some (.cells #[.int .i64 lv, .int .u64 pl, .string t] 48 (0, 0))
 hl : W.heap[w.heap.size + 2]? = some (.cells (nodeA zN) 28 (0, 0))
 hr : W.heap[w.heap.size + 3]? = some (.cells (nodeA zN) 28 (0, 0))
 sz : W.heap.size = w.heap.size + 4
theorem sdW_made (w : World) (wd lv pl : Int) (t : ByteArray) : SdW w ((((w.alloc (.cells #[.int .i64 wd] 3)).alloc (.cells #[.int .i64 lv, .int .u64 pl, .string t] 48)).alloc (.cells #[.string ⟨#[]⟩, .int .u64 0, .int .u64 0] 28)).alloc (.cells #[.string ⟨#[]⟩, .int .u64 0, .int .u64 0] 28)) wd lv pl t := by
 have h1 := blk_new (w.alloc (.cells #[.int .i64 wd] 3)) (.cells #[.int .i64 lv, .int .u64 pl, .string t] 48)
 rw [World.size_alloc] at h1
 have h2 := blk_new ((w.alloc (.cells #[.int .i64 wd] 3)).alloc (.cells #[.int .i64 lv, .int .u64 pl, .string t] 48)) (.cells #[.string ⟨#[]⟩, .int .u64 0, .int .u64 0] 28)
 rw [World.size_alloc, World.size_alloc] at h2
 have h3 := blk_new (((w.alloc (.cells #[.int .i64 wd] 3)).alloc (.cells #[.int .i64 lv, .int .u64 pl, .string t] 48)).alloc (.cells #[.string ⟨#[]⟩, .int .u64 0, .int .u64 0] 28)) (.cells #[.string ⟨#[]⟩, .int .u64 0, .int .u64 0] 28)
 rw [World.size_alloc, World.size_alloc, World.size_alloc] at h3
 exact ⟨below_alloc (below_alloc (below_alloc (below_alloc (Below.refl _ _) _) _) _) _, blk_alloc (blk_alloc (blk_alloc (blk_new w _) _) _) _, blk_alloc (blk_alloc h1 _) _, blk_alloc h2 _, h3, by rw [World.size_alloc, World.size_alloc, World.size_alloc, World.size_alloc]⟩
theorem SdR.keep {w W : World} (hsz : w.heap.size + 3 < W.heap.size) {wd : Nat} {t : ByteArray} (o : Option ByteArray) (w' w'' : World) (h : SdR w wd t o w') (hb : Below W.heap.size w' w'') : SdR w wd t o w'' := by
 obtain ⟨h0, l, r, hl, hr, ho⟩ := h
 exact ⟨h0.trans (hb.mono (by omega)), l, r, (hb.block _ (by omega)).trans hl, (hb.block _ (by omega)).trans hr, ho⟩
theorem SdR.run {w W : World} {wd : Nat} {lv pl : Int} {t : ByteArray} (h : SdW w W wd lv pl t) : ∀ W1 : World, RdS W W1 t → Below W.heap.size W W1 → Calls Tryd.prog 71 #[.pointer (some ⟨W.heap.size + 1, 0, none⟩), .pointer (some ⟨w.heap.size + 2, 0, none⟩), .pointer (some ⟨w.heap.size + 3, 0, none⟩), .pointer (some ⟨w.heap.size, 0, none⟩)] W1 fun e w' => (∃ rest, e = .returned (.tuple #[]) ∧ RdS W w' rest ∧ SdR w wd t (some rest) w') ∨ (e = shortP ∧ (∃ rest, RdS W w' rest) ∧ SdR w wd t none w') := by
 intro W1 hs hb
 have hz := h.sz
 have hI : SdI w W.heap.size wd W1 ⟨⟨#[]⟩, ⟨0, 0⟩⟩ ⟨⟨#[]⟩, ⟨0, 0⟩⟩ t := ⟨h.hB.trans (hb.mono (by omega)), (hb.block _ (by omega)).trans h.hw, (hb.block _ (by omega)).trans h.hl, (hb.block _ (by omega)).trans h.hr, hs.ok, hs.rd, by omega⟩
 refine (sides1.calls w W.heap.size wd t W1 hI).mono ?_
 rintro e w' (⟨hc, rfl, h2⟩ | ⟨hc, rfl, l, r, rest, h2⟩)
 ·
  exact Or.inl ⟨_, rfl, ⟨h2.ok, h2.rd⟩, h2.hB, _, _, h2.hl, h2.hr, hc, rfl, rfl, rfl⟩
 ·
  exact Or.inr ⟨rfl, ⟨rest, h2.ok, h2.rd⟩, h2.hB, l, r, h2.hl, h2.hr, hc⟩
set_option maxRecDepth 100000 in
theorem wide.calls (wd : Int) (w : World) : Calls Tryd.prog 65 #[.int .i64 wd] w fun e w' => e = .returned (.bool (decide (1 ≤ wd) && decide (wd ≤ 32))) ∧ w' = w := by
 go_enter Tryd.func65, Tryd.ntmps65
 by_cases h : 1 ≤ wd
 ·
  have b0 : decide (1 ≤ wd) = true := decide_eq_true h
  go_wp2
  go_ret
  exact ⟨by simp [b0, h], rfl⟩
 ·
  have b0 : decide (1 ≤ wd) = false := decide_eq_false h
  go_wp2
  go_ret
  exact ⟨by simp [b0, h], rfl⟩
set_option maxRecDepth 100000 in
set_option maxHeartbeats 4000000 in
theorem sides.calls (wd : Int) (lv pl : Int) (t : ByteArray) (w : World) :
  Calls Tryd.prog 24 #[.int .i64 wd, .agg #[.int .i64 lv, .int .u64 pl, .string t]] w fun e w' => e = .returned (.tuple #[nodeV (if isTwo wd t = true then sideL wd.toNat t else zN), nodeV (if isTwo wd t = true then sideR wd.toNat t else zN), .bool (isTwo wd t)]) ∧ Below w.heap.size w w' := by
 have hu := Tryd.underlying28
 have hmf : ∀ (fn : Fn) (first cap : Array Value) (w : World), (Instr.makeFunc fn first cap).run Tryd.prog w = .ok (.func fn first cap) w := fun _ _ _ _ => rfl
 obtain ⟨nl, hnl⟩ : ∃ x, x = (if isTwo wd t = true then sideL wd.toNat t else zN) := ⟨_, rfl⟩
 obtain ⟨nr, hnr⟩ : ∃ x, x = (if isTwo wd t = true then sideR wd.toNat t else zN) := ⟨_, rfl⟩
 rw [← hnl, ← hnr]
 have HNL := aM' hnl
 have HNR := aM' hnr
 clear hnl hnr
 obtain ⟨it, hit⟩ : ∃ b, b = isTwo wd t := ⟨_, rfl⟩
 rw [← hit]
 have HIT := aM' hit
 clear hit
 go_enter Tryd.func24, Tryd.ntmps24
 go_wp2_with fail
 have hS := sdW_made w wd lv pl t
 refine (wide.calls wd _).mono ?_
 rintro e V ⟨rfl, hV⟩
 rw [← hV] at hS
 have HS := aM' hS
 clear hV hS
 have x0 : V.cell? ⟨w.heap.size + 2, 0, none⟩ = some (.string ⟨#[]⟩) := blk_cell HS.out.hl 0
 have x1 : V.cell? ⟨w.heap.size + 2, 1, none⟩ = some (.int .u64 0) := blk_cell HS.out.hl 1
 have x2 : V.cell? ⟨w.heap.size + 2, 2, none⟩ = some (.int .u64 0) := blk_cell HS.out.hl 2
 have y0 : V.cell? ⟨w.heap.size + 3, 0, none⟩ = some (.string ⟨#[]⟩) := blk_cell HS.out.hr 0
 have y1 : V.cell? ⟨w.heap.size + 3, 1, none⟩ = some (.int .u64 0) := blk_cell HS.out.hr 1
 have y2 : V.cell? ⟨w.heap.size + 3, 2, none⟩ = some (.int .u64 0) := blk_cell HS.out.hr 2
 have xf : ∀ i, V.frozen? ⟨w.heap.size + 2, i, none⟩ = false := fun i => blk_frozen HS.out.hl i
 have yf : ∀ i, V.frozen? ⟨w.heap.size + 3, i, none⟩ = false := fun i => blk_frozen HS.out.hr i
 have s2 : V.cell? ⟨w.heap.size + 1, 2, none⟩ = some (.string t) := blk_cell HS.out.hs 2
 by_cases hw : 1 ≤ wd ∧ wd ≤ 32
 ·
  have b1 : (decide (1 ≤ wd) && decide (wd ≤ 32)) = true := by simp [hw.1, hw.2]
  rw [b1]
  obtain ⟨n, rfl⟩ := Int.eq_ofNat_of_zero_le (show 0 ≤ wd by omega)
  have HW := aM' hw
  have q := reads_two.calls ⟨w.heap.size + 2, 0, none⟩ ⟨w.heap.size + 3, 0, none⟩ ⟨w.heap.size, 0, none⟩ t V (SdR w n t) (SdR.keep (by have := HS.out.sz; omega)) (SdR.run HS.out)
  have Q := aM' q
  clear hw b1 q x0 x1 x2 y0 y1 y2 xf yf
  go_wp2_with fail
  refine Q.out.mono ?_
  rintro e V2 hpost
  clear s2 Q
  rcases hpost with ⟨rest, he, rfl, h0, l, r, hl, hr, hc, rfl, rfl, hrest⟩ | ⟨rfl, hn⟩
  ·
   have H0 := aM' h0
   have x0 : V2.cell? ⟨w.heap.size + 2, 0, none⟩ = some (.string (sideL n t).f0) := blk_cell hl 0
   have x1 : V2.cell? ⟨w.heap.size + 2, 1, none⟩ = some (.int .u64 (sideL n t).f1.f0) := blk_cell hl 1
   have x2 : V2.cell? ⟨w.heap.size + 2, 2, none⟩ = some (.int .u64 (sideL n t).f1.f1) := blk_cell hl 2
   have y0 : V2.cell? ⟨w.heap.size + 3, 0, none⟩ = some (.string (sideR n t).f0) := blk_cell hr 0
   have y1 : V2.cell? ⟨w.heap.size + 3, 1, none⟩ = some (.int .u64 (sideR n t).f1.f0) := blk_cell hr 1
   have y2 : V2.cell? ⟨w.heap.size + 3, 2, none⟩ = some (.int .u64 (sideR n t).f1.f1) := blk_cell hr 2
   have xf : ∀ i, V2.frozen? ⟨w.heap.size + 2, i, none⟩ = false := fun i => blk_frozen hl i
   have yf : ∀ i, V2.frozen? ⟨w.heap.size + 3, i, none⟩ = false := fun i => blk_frozen hr i
   have hit : isTwo (n : Int) t = true := by
    have hs := rest_size t (1 + n + 16 + n + 16) (by have := hc.1; omega)
    rw [← hrest] at hs
    have hz : rest.size = 0 := by
     have h1 : rest.toList = [] := by simpa using he
     have h2 : rest = ⟨#[]⟩ := toList_inj (h1.trans (show [] = (⟨#[]⟩ : ByteArray).toList by decide +kernel))
     rw [h2]; rfl
    have := hc.1
    have := HW.out
    unfold isTwo
    exact decide_eq_true ⟨HW.out, by omega, hc.2⟩
   have HT : Aside0 (it = true) := ⟨by rw [HIT.out, hit]⟩
   have HJ := aM' hit
   clear he h0 hl hr hc hrest hit
   go_wp2
   refine bodyPost_ret (v := .tuple #[nodeV (sideL n t), nodeV (sideR n t), .bool true]) ?_ rfl ⟨by rw [HT.out, HNL.out, HNR.out, HJ.out, if_pos rfl, if_pos rfl, Int.toNat_natCast], ?_⟩
   ·
    simp [results, Tryd.results24, go_sem, hu, x0, x1, x2, y0, y1, y2]
   ·
    exact below_set (below_set (below_set (below_set (below_set (below_set H0.out (by (try dsimp only); omega)) (by (try dsimp only); omega)) (by (try dsimp only); omega)) (by (try dsimp only); omega)) (by (try dsimp only); omega)) (by (try dsimp only); omega)
  ·
   have hn' : isTwo (n : Int) t = false ∧ Below w.heap.size w V2 ∧ ∃ l r, V2.heap[w.heap.size + 2]? = some (.cells (nodeA l) 28 (0, 0)) ∧ V2.heap[w.heap.size + 3]? = some (.cells (nodeA r) 28 (0, 0)) := by
    rcases hn with ⟨rest, he, h0, l, r, hl, hr, hc, rfl, rfl, hrest⟩ | ⟨h0, l, r, hl, hr, hc⟩
    ·
     refine ⟨?_, h0, _, _, hl, hr⟩
     unfold isTwo
     refine decide_eq_false fun h => ?_
     have hs := rest_size t (1 + n + 16 + n + 16) (by have := hc.1; omega)
     rw [← hrest] at hs
     have h2 : rest.size = 0 := by have := h.2.1; omega
     have h3 : rest = ⟨#[]⟩ := ByteArray.ext (by have : rest.data.size = 0 := h2; exact Array.eq_empty_of_size_eq_zero this)
     rw [h3, show ((⟨#[]⟩ : ByteArray).toList.isEmpty) = true by decide +kernel] at he
     cases he
    ·
     refine ⟨?_, h0, _, _, hl, hr⟩
     unfold isTwo
     exact decide_eq_false fun h => hc ⟨by have := h.2.1; omega, h.2.2⟩
   obtain ⟨hit, h0, l, r, hl, hr⟩ := hn'
   clear hn
   have H0 := aM' h0
   have x0 : V2.cell? ⟨w.heap.size + 2, 0, none⟩ = some (.string l.f0) := blk_cell hl 0
   have x1 : V2.cell? ⟨w.heap.size + 2, 1, none⟩ = some (.int .u64 l.f1.f0) := blk_cell hl 1
   have x2 : V2.cell? ⟨w.heap.size + 2, 2, none⟩ = some (.int .u64 l.f1.f1) := blk_cell hl 2
   have y0 : V2.cell? ⟨w.heap.size + 3, 0, none⟩ = some (.string r.f0) := blk_cell hr 0
   have y1 : V2.cell? ⟨w.heap.size + 3, 1, none⟩ = some (.int .u64 r.f1.f0) := blk_cell hr 1
   have y2 : V2.cell? ⟨w.heap.size + 3, 2, none⟩ = some (.int .u64 r.f1.f1) := blk_cell hr 2
   have xf : ∀ i, V2.frozen? ⟨w.heap.size + 2, i, none⟩ = false := fun i => blk_frozen hl i
   have yf : ∀ i, V2.frozen? ⟨w.heap.size + 3, i, none⟩ = false := fun i => blk_frozen hr i
   have HT : Aside0 (it = false) := ⟨by rw [HIT.out, hit]⟩
   have HJ := aM' hit
   clear h0 hl hr hit
   go_wp2
   refine bodyPost_ret (v := .tuple #[nodeV zN, nodeV zN, .bool false]) ?_ rfl ⟨by rw [HT.out, HNL.out, HNR.out, HJ.out, if_neg Bool.false_ne_true, if_neg Bool.false_ne_true], ?_⟩
   ·
    simp [results, Tryd.results24, go_sem, hu, x0, x1, x2, y0, y1, y2]
   ·
    exact below_set (below_set (below_set (below_set (below_set (below_set H0.out (by (try dsimp only); omega)) (by (try dsimp only); omega)) (by (try dsimp only); omega)) (by (try dsimp only); omega)) (by (try dsimp only); omega)) (by (try dsimp only); omega)
 ·
  have b1 : (decide (1 ≤ wd) && decide (wd ≤ 32)) = false := by
   by_cases h1 : 1 ≤ wd
   ·
    simp [h1]; omega
   ·
    simp [h1]
  rw [b1]
  have hit : isTwo wd t = false := by unfold isTwo; exact decide_eq_false fun h => hw h.1
  have HT : Aside0 (it = false) := ⟨by rw [HIT.out, hit]⟩
  have HJ := aM' hit
  clear hw b1 s2 hit
  go_wp2
  refine bodyPost_ret (v := .tuple #[nodeV zN, nodeV zN, .bool false]) ?_ rfl ⟨by rw [HT.out, HNL.out, HNR.out, HJ.out, if_neg Bool.false_ne_true, if_neg Bool.false_ne_true], ?_⟩
  ·
   simp [results, Tryd.results24, go_sem, hu, x0, x1, x2, y0, y1, y2]
  ·
   exact below_set (below_set (below_set (below_set (below_set (below_set HS.out.hB (by (try dsimp only); omega)) (by (try dsimp only); omega)) (by (try dsimp only); omega)) (by (try dsimp only); omega)) (by (try dsimp only); omega)) (by (try dsimp only); omega)
end Go.Proofs.YtijfifphcchbbaaDoor.P
namespace Go.Proofs.YtijfifphcchbbaaDoor.P
open Go.RowKit Go.Proofs.YtijfifphcchbbaaDoorW.PrintWords Go.Proofs.YtijfifphcchbbaaDoorW.PrintLast Go.Proofs.YtijfifphcchbbaaDoorW.PrintMore
set_option linter.unusedVariables false
set_option linter.unusedSimpArgs false
set_option linter.unnecessarySimpa false
abbrev dots : ByteArray := ⟨#[46, 95, 45]⟩
theorem dots_dec : ∀ k, k < 3 → ((Utf8.decode dots k).1 < 128 ∧ (Utf8.decode dots k).2 = 1) := by decide
set_option maxRecDepth 100000 in
set_option maxHeartbeats 1000000 in
theorem iRune_err (w : World) : Calls Tryd.prog 185 #[.string dots, .int .i32 65533] w fun e w' => e = .returned (.int .i64 (-1)) ∧ ∃ pos, w' = w.iter dots pos := by
 go_enter Tryd.func185, Tryd.ntmps185
 go_wp2
 go_loopw [] (fun w' => ∃ pos, pos ≤ 3 ∧ w' = w.iter dots pos) (fun w' => 3 - w'.iterPos w.heap.size)
 case atStart => exact ⟨0, by omega, rfl⟩
 case round =>
  obtain ⟨pos, hp, rfl⟩ := hrel
  by_cases hlt : pos < 3
  ·
   have hnx : ∀ ty, (Instr.next (.pointer (some ⟨w.heap.size, 0, none⟩)) true ty).run Tryd.prog (w.iter dots pos) = _ := fun ty => run_next_any w dots pos ty hlt
   obtain ⟨h1, h2⟩ := dots_dec pos hlt
   have b1 : (((Utf8.decode dots pos).1 : Int) == 65533) = false := by simp; omega
   clear h1
   go_wp2
   go_roundw
   case rel => exact ⟨pos + 1, by omega, rfl⟩
   case measure => simp; omega
  ·
   obtain rfl : pos = 3 := by omega
   have hnx : ∀ ty, (Instr.next (.pointer (some ⟨w.heap.size, 0, none⟩)) true ty).run Tryd.prog (w.iter dots 3) = _ := fun ty => run_next_end w dots 3 ty (by decide)
   go_wp2
   go_ret
   exact ⟨rfl, _, rfl⟩
theorem enc2 (r : Int) (hv : Utf8.valid r = true) (h1 : 128 ≤ r) (h2 : r < 2048) : ∃ a b : UInt8, Utf8.encode r = ⟨#[a, b]⟩ ∧ 128 ≤ b.toNat := by
 refine ⟨UInt8.ofNat (192 + r.toNat / 64), UInt8.ofNat (128 + r.toNat % 64), ?_, by simp; omega⟩
 simp only [Utf8.encode, hv, if_true]; rw [if_neg (by omega), if_pos (by omega)]
theorem enc3 (r : Int) (hv : Utf8.valid r = true) (h1 : 2048 ≤ r) (h2 : r < 65536) : ∃ a b c : UInt8, Utf8.encode r = ⟨#[a, b, c]⟩ ∧ 128 ≤ c.toNat := by
 refine ⟨UInt8.ofNat (224 + r.toNat / 4096), UInt8.ofNat (128 + r.toNat / 64 % 64), UInt8.ofNat (128 + r.toNat % 64), ?_, by simp; omega⟩
 simp only [Utf8.encode, hv, if_true]; rw [if_neg (by omega), if_neg (by omega), if_pos (by omega)]
theorem enc4 (r : Int) (hv : Utf8.valid r = true) (h1 : 65536 ≤ r) : ∃ a b c d : UInt8, Utf8.encode r = ⟨#[a, b, c, d]⟩ := by
 refine ⟨UInt8.ofNat (240 + r.toNat / 262144), UInt8.ofNat (128 + r.toNat / 4096 % 64), UInt8.ofNat (128 + r.toNat / 64 % 64), UInt8.ofNat (128 + r.toNat % 64), ?_⟩
 simp only [Utf8.encode, hv, if_true]; rw [if_neg (by omega), if_neg (by omega), if_neg (by omega)]
theorem valid_lib {r : Int} (hv : Utf8.valid r = true) : Lib.validRune r = true := by
 unfold Lib.validRune; unfold Utf8.valid at hv; simp only [Bool.or_eq_true, Bool.and_eq_true, decide_eq_true_eq] at hv; rw [decide_eq_true_eq]; omega
set_option maxRecDepth 100000 in
set_option maxHeartbeats 1000000 in
theorem iRune_2 (r : Int) (hv : Utf8.valid r = true) (h1 : 128 ≤ r) (h2 : r < 2048) (hne : r ≠ 65533) (w : World) : Calls Tryd.prog 185 #[.string dots, .int .i32 r] w fun e w' => e = .returned (.int .i64 (-1)) ∧ Below w.heap.size w w' := by
 obtain ⟨a, b, hrs, hb⟩ := enc2 r hv h1 h2
 have b1 : (r == 65533) = false := by simpa using hne
 have b2 : decide (0 ≤ r) = true := decide_eq_true (by omega)
 have b3 : decide (r < 128) = false := decide_eq_false (by omega)
 have hvr := valid_lib hv
 clear hne
 go_enter Tryd.func185, Tryd.ntmps185
 go_wp2_with (go_at_call 191; refine (Tryd.utf8_ValidRune r _).mono ?_; rw [hvr]; rintro e w' ⟨rfl, hw⟩; rw [hw])
 go_step3
 go_wp2
 refine wp_loop_rounds 1 ?_
 rw [rounds_succ]
 go_wp2
 go_step3
 go_wp2
 have e1 : (((dots[1]'(by decide)).toNat : Int) != (((⟨#[a, b]⟩ : ByteArray)[1]'(show 1 < 2 by decide)).toNat : Int)) = true := by
  show ((95 : Int) != (b.toNat : Int)) = true
  simp; omega
 go_quiet (fail)
 obtain ⟨W, hW⟩ : ∃ W, W = w.drewN nq := ⟨_, rfl⟩
 rw [← hW]
 have HW : Aside0 (Below w.heap.size w W) := ⟨by rw [hW]; exact pw_below_drewN (Below.refl _ _) _⟩
 clear hW
 go_wp2
 have w2 : IntKind.i64.wrap 2 = 2 := by decide
 go_quiet ((go_at_call 190; exact Calls.quiet_of_same (Tryd.strings_IndexByte _ _ _)))
 have e2 : Lib.indexByte (dots.extract 2 3).data.toList ((((⟨#[a, b]⟩ : ByteArray)[1]'(show 1 < 2 by decide)).toNat : Int).toNat.toUInt8) = -1 := by
  show (if (45 : UInt8) == b.toNat.toUInt8 then (0 : Int) else if Lib.indexByte [] b.toNat.toUInt8 == -1 then -1 else Lib.indexByte [] b.toNat.toUInt8 + 1) = -1
  rw [if_neg (by intro h; have := congrArg UInt8.toNat (eq_of_beq h); simp at this; omega)]
  rfl
 rw [e2]
 clear e1 e2 w2
 go_wp2
 rw [Exit.noGoto_ret]
 go_wp2
 rw [Exit.noGoto_ret]
 go_ret
 exact ⟨rfl, pw_below_drewN HW.out _⟩
set_option maxRecDepth 100000 in
set_option maxHeartbeats 1000000 in
theorem iRune_3 (r : Int) (hv : Utf8.valid r = true) (h1 : 2048 ≤ r) (h2 : r < 65536) (hne : r ≠ 65533) (w : World) : Calls Tryd.prog 185 #[.string dots, .int .i32 r] w fun e w' => e = .returned (.int .i64 (-1)) ∧ Below w.heap.size w w' := by
 obtain ⟨a, b, c, hrs, hb⟩ := enc3 r hv h1 h2
 have b1 : (r == 65533) = false := by simpa using hne
 have b2 : decide (0 ≤ r) = true := decide_eq_true (by omega)
 have b3 : decide (r < 128) = false := decide_eq_false (by omega)
 have hvr := valid_lib hv
 clear hne
 go_enter Tryd.func185, Tryd.ntmps185
 go_wp2_with (go_at_call 191; refine (Tryd.utf8_ValidRune r _).mono ?_; rw [hvr]; rintro e w' ⟨rfl, hw⟩; rw [hw])
 go_step3
 go_wp2
 refine wp_loop_rounds 1 ?_
 rw [rounds_succ]
 go_wp2
 go_step3
 go_wp2
 have e1 : (((dots[2]'(by decide)).toNat : Int) != (((⟨#[a, b, c]⟩ : ByteArray)[2]'(show 2 < 3 by decide)).toNat : Int)) = true := by
  show ((45 : Int) != (c.toNat : Int)) = true
  simp; omega
 go_quiet (fail)
 obtain ⟨W, hW⟩ : ∃ W, W = w.drewN nq := ⟨_, rfl⟩
 rw [← hW]
 have HW : Aside0 (Below w.heap.size w W) := ⟨by rw [hW]; exact pw_below_drewN (Below.refl _ _) _⟩
 clear hW
 go_wp2
 have w2 : IntKind.i64.wrap 3 = 3 := by decide
 go_quiet ((go_at_call 190; exact Calls.quiet_of_same (Tryd.strings_IndexByte _ _ _)))
 have e2 : Lib.indexByte ByteArray.empty.data.toList ((((⟨#[a, b, c]⟩ : ByteArray)[2]'(show 2 < 3 by decide)).toNat : Int).toNat.toUInt8) = -1 := by
  rfl
 rw [e2]
 clear e1 e2 w2
 go_wp2
 rw [Exit.noGoto_ret]
 go_wp2
 rw [Exit.noGoto_ret]
 go_ret
 exact ⟨rfl, pw_below_drewN HW.out _⟩
set_option maxRecDepth 100000 in
set_option maxHeartbeats 1000000 in
theorem iRune_4 (r : Int) (hv : Utf8.valid r = true) (h1 : 65536 ≤ r) (hne : r ≠ 65533) (w : World) : Calls Tryd.prog 185 #[.string dots, .int .i32 r] w fun e w' => e = .returned (.int .i64 (-1)) ∧ Below w.heap.size w w' := by
 obtain ⟨a, b, c, d, hrs⟩ := enc4 r hv h1
 have b1 : (r == 65533) = false := by simpa using hne
 have b2 : decide (0 ≤ r) = true := decide_eq_true (by omega)
 have b3 : decide (r < 128) = false := decide_eq_false (by omega)
 have hvr := valid_lib hv
 clear hne
 go_enter Tryd.func185, Tryd.ntmps185
 go_wp2_with (go_at_call 191; refine (Tryd.utf8_ValidRune r _).mono ?_; rw [hvr]; rintro e w' ⟨rfl, hw⟩; rw [hw])
 go_step3
 go_wp2
 refine wp_loop_rounds 1 ?_
 rw [rounds_succ]
 go_wp2
 rw [Exit.noGoto_ret]
 go_ret
 exact ⟨rfl, Below.refl _ _⟩
theorem below_iter (w : World) (s : ByteArray) (p : Nat) : Below w.heap.size w (w.iter s p) := below_alloc (Below.refl _ _) _
theorem iRune_high (r : Int) (hv : Utf8.valid r = true) (h1 : 128 ≤ r) (w : World) : Calls Tryd.prog 185 #[.string dots, .int .i32 r] w fun e w' => e = .returned (.int .i64 (-1)) ∧ Below w.heap.size w w' := by
 by_cases hne : r = 65533
 ·
  subst hne
  exact (iRune_err w).mono fun e w' ⟨h, p, hw⟩ => ⟨h, by rw [hw]; exact below_iter w _ _⟩
 ·
  by_cases h2 : r < 2048
  ·
   exact iRune_2 r hv h1 h2 hne w
  ·
   by_cases h3 : r < 65536
   ·
    exact iRune_3 r hv (by omega) h3 hne w
   ·
    exact iRune_4 r hv (by omega) hne w
def dotI (r : Int) : Bool := decide (r = 46 ∨ r = 95 ∨ r = 45)
theorem dots_at : ∀ k : Fin 128, decide (0 ≤ Lib.indexByte dots.data.toList ((k.val : Nat) : Int).toNat.toUInt8) = dotI ((k.val : Nat) : Int) := by decide
set_option maxHeartbeats 400000 in
theorem cRune_high (r : Int) (hv : Utf8.valid r = true) (h1 : 128 ≤ r) (w : World) : Calls Tryd.prog 174 #[.string dots, .int .i32 r] w fun e w' => e = .returned (.bool false) ∧ Below w.heap.size w w' := by
 go_enter Tryd.func174, Tryd.ntmps174
 go_wp2_with fail
 refine (iRune_high r hv h1 _).mono ?_
 rintro e w1 ⟨rfl, hb⟩
 have HB := aM' hb
 clear hb
 go_wp2
 go_ret
 exact ⟨rfl, HB.out⟩
def strings_ContainsRune.f (s : ByteArray) (r : Int) : Option Bool := if s = dots ∧ Utf8.valid r = true then some (dotI r) else none
theorem strings_ContainsRune.calls (s : ByteArray) (r : Int) (b : Bool) (w : World) (h : strings_ContainsRune.f s r = some b) :
  Calls Tryd.prog 174 #[.string s, .int .i32 r] w fun e w' => e = .returned (.bool b) ∧ Below w.heap.size w w' := by
 unfold strings_ContainsRune.f at h
 split at h
 ·
  rename_i hh
  obtain ⟨rfl, hv⟩ := hh
  obtain rfl := Option.some.inj h
  by_cases h1 : r < 128
  ·
   have h0 : 0 ≤ r := by unfold Utf8.valid at hv; simp only [Bool.or_eq_true, Bool.and_eq_true, decide_eq_true_eq] at hv; omega
   obtain ⟨k, rfl⟩ := Int.eq_ofNat_of_zero_le h0
   have h3 := dots_at ⟨k, by omega⟩
   refine (Tryd.strings_ContainsRune_ascii dots (k : Int) w h0 h1).mono ?_
   rintro e w' ⟨rfl, rfl⟩
   refine ⟨?_, Below.refl _ _⟩
   rw [show decide (0 ≤ Lib.indexByte dots.data.toList ((k : Nat) : Int).toNat.toUInt8) = dotI ((k : Nat) : Int) from h3]
  ·
   have e : dotI r = false := by unfold dotI; exact decide_eq_false (by omega)
   rw [e]
   exact cRune_high r hv (by omega) w
 ·
  cases h
end Go.Proofs.YtijfifphcchbbaaDoor.P
