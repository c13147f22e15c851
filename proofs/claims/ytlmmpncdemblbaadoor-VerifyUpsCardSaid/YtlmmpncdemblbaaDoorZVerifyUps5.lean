/- PROVED HERE: the Go function paymasterlaw17.VerifyUps returns true for every input that the given statement speaks of, and each argument reads behind the call as it read before. Conditions: none beyond the given statement's own (the laid table of constants, tied by the card). -/
-- Several texts of this workplace as one.
import Derived.Test.YtlmmpncdemblbaaDoorZVerifyUps4
import Derived.Test.YtlmmpncdemblbaaDoorProg
import Derived.Deep.OwnRows
import Derived.Laws.Rows
import Derived.Test.YtlmmpncdemblbaaDoorRows
import Derived.Test.YtlmmpncdemblbaaDoorCards
import Derived.Test.YtlmmpncdemblbaaDoorTie
namespace Go.Proofs.YtlmmpncdemblbaaDoor.P
open Go.RowKit Go.Proofs.YtlmmpncdemblbaaDoorW.PrintWords Go.Proofs.YtlmmpncdemblbaaDoorW.PrintLast Go.Proofs.YtlmmpncdemblbaaDoorW.PrintMore
attribute [local go_sem] max2_int min2_int max_two min_two max_three min_three max_four min_four-- for this text's walks alone
set_option linter.unusedVariables false
set_option linter.unusedSimpArgs false
attribute [local go_sem high] eqANode eqARoot
/-! ### paymasterlaw17_VerifyUps: function 10 -/
mutual
def paymasterlaw17_VerifyUps.j0 : Nat → Bool → Bool → ByteArray → ByteArray → Int → Int → Int → List (SNode) → Bool → ByteArray → ByteArray → Int → Int → Int → List (SNode) → Option (Bool)
 | 0, _, _, _, _, _, _, _, _, _, _, _, _, _, _, _ => none
 | k + 1, x40, x110000, x110001, x110002, x110003, x110004, x110005, x110006, x112000, x112001, x112002, x112003, x112004, x112005, x112006 => if x40 = true then (some false) else (paymasterlaw17_VerifyUps.l0 k 0 x110000 x110001 x110002 x110003 x110004 x110005 x110006 x112000 x112001 x112002 x112003 x112004 x112005 x112006)
def paymasterlaw17_VerifyUps.l0 : Nat → Int → Bool → ByteArray → ByteArray → Int → Int → Int → List (SNode) → Bool → ByteArray → ByteArray → Int → Int → Int → List (SNode) → Option (Bool)
 | 0, _, _, _, _, _, _, _, _, _, _, _, _, _, _, _ => none
 | k + 1, x10, x110000, x110001, x110002, x110003, x110004, x110005, x110006, x112000, x112001, x112002, x112003, x112004, x112005, x112006 => if x10 < (x112006.length : Int) then (if 0 ≤ x10 then (if x10 < (x110006.length : Int) then (if (!((((rd_TNode x112006 x10).f0).toList) == (((rd_TNode x110006 x10).f0).toList)) || ((!(((rd_TNode x112006 x10).f1.f0) == ((rd_TNode x110006 x10).f1.f0)) || (!(((rd_TNode x112006 x10).f1.f1) == ((rd_TNode x110006 x10).f1.f1)))))) = true then (some false) else (paymasterlaw17_VerifyUps.l0 k (wrap64 (x10 + 1)) x110000 x110001 x110002 x110003 x110004 x110005 x110006 x112000 x112001 x112002 x112003 x112004 x112005 x112006)) else (none)) else (none)) else (some true)
end
def paymasterlaw17_VerifyUps.f (k : Nat) (a0 : Int) (a1_0 : Bool) (a1_1 : ByteArray) (a1_2 : ByteArray) (a1_3 : Int) (a1_4 : Int) (a1_5 : Int) (l1_6 : List (SNode)) : Option (Bool) := (paymasterlaw16_LongEntry.f k a1_0 a1_1 a1_2 a1_3 a1_4 a1_5 l1_6).bind fun t110 => (if t110 = true then (some true) else ((some (([] : List (SNode)) : List (SNode))).bind fun y112 => (if y112.length + l1_6.length < 4398046511104 then ((some (y112 ++ l1_6 : List (SNode))).bind fun y115 => ((verify_Up.f a0 a1_0 a1_1 a1_2 a1_3 a1_4 a1_5 y115).bind fun bt118 => ((paymasterref17_Up.f a0 a1_0 a1_1 a1_2 a1_3 a1_4 a1_5 l1_6).bind fun bt124 => (if (!(bt118.1.toList == bt124.1.toList) || ((!(bt118.2.1 == bt124.2.1) || (!(bt118.2.2.1 == bt124.2.2.1))) || (!(bt118.2.2.2.1 == bt124.2.2.2.1)))) = true then (paymasterlaw17_VerifyUps.j0 k true a1_0 a1_1 a1_2 a1_3 a1_4 a1_5 l1_6 a1_0 a1_1 a1_2 a1_3 a1_4 a1_5 y115) else (paymasterlaw17_VerifyUps.j0 k (bt118.2.2.2.2 != bt124.2.2.2.2) a1_0 a1_1 a1_2 a1_3 a1_4 a1_5 l1_6 a1_0 a1_1 a1_2 a1_3 a1_4 a1_5 y115))))) else (none))))
set_option maxHeartbeats 8000000 in
set_option maxRecDepth 100000 in
theorem paymasterlaw17_VerifyUps.calls (k : Nat) (a0 : Int) (a1_0 : Bool) (a1_1 : ByteArray) (a1_2 : ByteArray) (a1_3 : Int) (a1_4 : Int) (a1_5 : Int) (A1_6 : Option Addr) (c1_6 : Nat) (l1_6 : List (SNode)) (r : Bool) (w : World) (hK : LaidT w) (hr1_6 : Kd.C kNode w A1_6 l1_6.length l1_6) (hc1_6 : l1_6.length ≤ c1_6) (h : paymasterlaw17_VerifyUps.f k a0 a1_0 a1_1 a1_2 a1_3 a1_4 a1_5 l1_6 = some r) :
  Calls Tryd.prog 10 #[.int .i64 a0, .agg #[.bool a1_0, .string a1_1, .string a1_2, .int .u64 a1_3, .int .u64 a1_4, .int .u64 a1_5, .slice A1_6 l1_6.length c1_6]] w fun e w' => e = .returned (.bool r) ∧ Below w.heap.size w w' := by
 have hu63 := Tryd.underlying63
 have hu66 := Tryd.underlying66
 have hu26 := Tryd.underlying26
 have HR1_6 := Aside0.mk hr1_6
 have HC1_6 := Aside0.mk hc1_6
 clear hr1_6 hc1_6
 have HB := Aside0.mk (Below.refl w.heap.size w)
 have HLD := Aside0.mk hK
 clear hK
 have H : ((paymasterlaw16_LongEntry.f k a1_0 a1_1 a1_2 a1_3 a1_4 a1_5 l1_6).bind fun t110 => (if t110 = true then (some true) else ((some (([] : List (SNode)) : List (SNode))).bind fun y112 => (if y112.length + l1_6.length < 4398046511104 then ((some (y112 ++ l1_6 : List (SNode))).bind fun y115 => ((verify_Up.f a0 a1_0 a1_1 a1_2 a1_3 a1_4 a1_5 y115).bind fun bt118 => ((paymasterref17_Up.f a0 a1_0 a1_1 a1_2 a1_3 a1_4 a1_5 l1_6).bind fun bt124 => (if (!(bt118.1.toList == bt124.1.toList) || ((!(bt118.2.1 == bt124.2.1) || (!(bt118.2.2.1 == bt124.2.2.1))) || (!(bt118.2.2.2.1 == bt124.2.2.2.1)))) = true then (paymasterlaw17_VerifyUps.j0 k true a1_0 a1_1 a1_2 a1_3 a1_4 a1_5 l1_6 a1_0 a1_1 a1_2 a1_3 a1_4 a1_5 y115) else (paymasterlaw17_VerifyUps.j0 k (bt118.2.2.2.2 != bt124.2.2.2.2) a1_0 a1_1 a1_2 a1_3 a1_4 a1_5 l1_6 a1_0 a1_1 a1_2 a1_3 a1_4 a1_5 y115))))) else (none))))) = some r := h
 clear h
 replace H := Option.bind_eq_some_iff.mp H
 obtain ⟨t110, A30, H⟩ := H
 replace H : (if t110 = true then (some true) else ((some (([] : List (SNode)) : List (SNode))).bind fun y112 => (if y112.length + l1_6.length < 4398046511104 then ((some (y112 ++ l1_6 : List (SNode))).bind fun y115 => ((verify_Up.f a0 a1_0 a1_1 a1_2 a1_3 a1_4 a1_5 y115).bind fun bt118 => ((paymasterref17_Up.f a0 a1_0 a1_1 a1_2 a1_3 a1_4 a1_5 l1_6).bind fun bt124 => (if (!(bt118.1.toList == bt124.1.toList) || ((!(bt118.2.1 == bt124.2.1) || (!(bt118.2.2.1 == bt124.2.2.1))) || (!(bt118.2.2.2.1 == bt124.2.2.2.1)))) = true then (paymasterlaw17_VerifyUps.j0 k true a1_0 a1_1 a1_2 a1_3 a1_4 a1_5 l1_6 a1_0 a1_1 a1_2 a1_3 a1_4 a1_5 y115) else (paymasterlaw17_VerifyUps.j0 k (bt118.2.2.2.2 != bt124.2.2.2.2) a1_0 a1_1 a1_2 a1_3 a1_4 a1_5 l1_6 a1_0 a1_1 a1_2 a1_3 a1_4 a1_5 y115))))) else (none)))) = some r := H
 have A3 := Aside0.mk A30
 clear A30
 by_cases c4 : t110 = true
 ·
  subst c4
  have H1 : (some true) = some r := by rw [if_pos rfl] at H; exact H
  clear H
  have H := H1
  clear H1
  obtain rfl := Option.some.inj H
  go_enter Tryd.func10, Tryd.ntmps10
  go_wp2_with (first | ((with_reducible refine gate_dst (N := 3) rfl ?_); refine box_event ?hg (N := 3) ?hd (cs := #[.bool a1_0, .string a1_1, .string a1_2, .int .u64 a1_3, .int .u64 a1_4, .int .u64 a1_5, .slice A1_6 l1_6.length c1_6]) (t := 63) ?hr ?_; (case hd => rfl); (case hg => rfl); (case hr => first | (go_simp; done) | (go_simp; rfl)); intro gb109 hg w5 hbox hb; have n0_ := Aside0.mk (below_step (by repeat (first | (with_reducible first | exact HB.out | apply below_alloc | apply pw_below_drewN | apply below_drew1) | exact HB.out)) hb); have n1_ := Aside0.mk (hbox); have n2_ := Aside0.mk ((by rw [hg]; exact (below_size (by repeat (first | (with_reducible first | exact HB.out | apply below_alloc | apply pw_below_drewN | apply below_drew1) | exact HB.out))) : w.heap.size ≤ gb109)); have n3_ := Aside0.mk ((by rw [hg]; exact (below_size (by repeat (first | (with_reducible first | exact HB.out | apply below_alloc | apply pw_below_drewN | apply below_drew1) | exact HB.out))) : w.heap.size ≤ gb109)); clear HB; have HB := n0_; have BK109 := n1_; have GW109 := n2_; have GE109 := n3_; clear n0_ n1_ n2_ n3_; clear hb hbox hg; have hcz6_0 : w5.cell? ⟨gb109, 0, none⟩ = some (.bool a1_0) := (blk_cell BK109.out 0).trans rfl; have hcz6_1 : w5.cell? ⟨gb109, 1, none⟩ = some (.string a1_1) := (blk_cell BK109.out 1).trans rfl; have hcz6_2 : w5.cell? ⟨gb109, 2, none⟩ = some (.string a1_2) := (blk_cell BK109.out 2).trans rfl; have hcz6_3 : w5.cell? ⟨gb109, 3, none⟩ = some (.int .u64 a1_3) := (blk_cell BK109.out 3).trans rfl; have hcz6_4 : w5.cell? ⟨gb109, 4, none⟩ = some (.int .u64 a1_4) := (blk_cell BK109.out 4).trans rfl; have hcz6_5 : w5.cell? ⟨gb109, 5, none⟩ = some (.int .u64 a1_5) := (blk_cell BK109.out 5).trans rfl; have hcz6_6 : w5.cell? ⟨gb109, 6, none⟩ = some (.slice A1_6 l1_6.length c1_6) := (blk_cell BK109.out 6).trans rfl; have hfz6_0 := blk_frozen BK109.out 0; have hfz6_1 := blk_frozen BK109.out 1; have hfz6_2 := blk_frozen BK109.out 2; have hfz6_3 := blk_frozen BK109.out 3; have hfz6_4 := blk_frozen BK109.out 4; have hfz6_5 := blk_frozen BK109.out 5; have hfz6_6 := blk_frozen BK109.out 6) | (go_at_call 27; (with_reducible refine (paymasterlaw16_LongEntry.calls k a1_0 a1_1 a1_2 a1_3 a1_4 a1_5 _ _ l1_6 true _ ?side1 ?side2 A3.out).mono ?_); (case side1 => repeat (first | exact (Kd.C_below HR1_6.out HB.out) | (with_reducible refine Kd.C_alloc ?_ _) | (with_reducible refine Kd.C_drewN ?_ _) | (with_reducible refine Kd.C_drew ?_))); (case side2 => exact HC1_6.out); rintro e w7 ⟨rfl, hb⟩; have n0_ := Aside0.mk (blk_below (g := gb109) (o := .cells #[.bool a1_0, .string a1_1, .string a1_2, .int .u64 a1_3, .int .u64 a1_4, .int .u64 a1_5, .slice A1_6 l1_6.length c1_6] 63 (0, 0)) (by (with_reducible repeat (first | refine blk_drewN ?_ _ | refine blk_drew ?_ | refine blk_alloc ?_ _)); exact BK109.out) hb); have n1_ := Aside0.mk (below_step (by repeat (first | (with_reducible first | exact HB.out | apply below_alloc | apply pw_below_drewN | apply below_drew1 | refine below_set ?_ GE109.out) | exact HB.out)) hb); clear BK109; clear HB; have BK109 := n0_; have HB := n1_; clear n0_ n1_; (try clear hb); (try clear hb2); (try clear hk); (try clear hi)))
  go_ret
  exact ⟨by first | rfl | (simp [errW_none, errW_some] <;> rfl) | (simp [*, errW_none, errW_some] <;> rfl), by repeat (first | (with_reducible first | exact HB.out | apply below_alloc | apply pw_below_drewN | apply below_drew1 | refine below_set ?_ GE109.out) | exact HB.out)⟩
 ·
  replace c4 := Bool.eq_false_iff.mpr c4
  subst c4
  have H1 : ((some (([] : List (SNode)) : List (SNode))).bind fun y112 => (if y112.length + l1_6.length < 4398046511104 then ((some (y112 ++ l1_6 : List (SNode))).bind fun y115 => ((verify_Up.f a0 a1_0 a1_1 a1_2 a1_3 a1_4 a1_5 y115).bind fun bt118 => ((paymasterref17_Up.f a0 a1_0 a1_1 a1_2 a1_3 a1_4 a1_5 l1_6).bind fun bt124 => (if (!(bt118.1.toList == bt124.1.toList) || ((!(bt118.2.1 == bt124.2.1) || (!(bt118.2.2.1 == bt124.2.2.1))) || (!(bt118.2.2.2.1 == bt124.2.2.2.1)))) = true then (paymasterlaw17_VerifyUps.j0 k true a1_0 a1_1 a1_2 a1_3 a1_4 a1_5 l1_6 a1_0 a1_1 a1_2 a1_3 a1_4 a1_5 y115) else (paymasterlaw17_VerifyUps.j0 k (bt118.2.2.2.2 != bt124.2.2.2.2) a1_0 a1_1 a1_2 a1_3 a1_4 a1_5 l1_6 a1_0 a1_1 a1_2 a1_3 a1_4 a1_5 y115))))) else (none))) = some r := by rw [if_neg (show ¬ (false = true) by decide)] at H; exact H
  clear H
  have H := H1
  clear H1
  obtain ⟨y112, hy112⟩ : ∃ y_ : List (SNode), y_ = (([] : List (SNode))) := ⟨_, rfl⟩
  replace H : (if y112.length + l1_6.length < 4398046511104 then ((some (y112 ++ l1_6 : List (SNode))).bind fun y115 => ((verify_Up.f a0 a1_0 a1_1 a1_2 a1_3 a1_4 a1_5 y115).bind fun bt118 => ((paymasterref17_Up.f a0 a1_0 a1_1 a1_2 a1_3 a1_4 a1_5 l1_6).bind fun bt124 => (if (!(bt118.1.toList == bt124.1.toList) || ((!(bt118.2.1 == bt124.2.1) || (!(bt118.2.2.1 == bt124.2.2.1))) || (!(bt118.2.2.2.1 == bt124.2.2.2.1)))) = true then (paymasterlaw17_VerifyUps.j0 k true a1_0 a1_1 a1_2 a1_3 a1_4 a1_5 l1_6 a1_0 a1_1 a1_2 a1_3 a1_4 a1_5 y115) else (paymasterlaw17_VerifyUps.j0 k (bt118.2.2.2.2 != bt124.2.2.2.2) a1_0 a1_1 a1_2 a1_3 a1_4 a1_5 l1_6 a1_0 a1_1 a1_2 a1_3 a1_4 a1_5 y115))))) else (none)) = some r := by first | (rw [hy112]; with_reducible exact H) | (have H2_ := (Option.bind_some _ _).symm.trans H; rw [hy112]; with_reducible exact H2_) | (have H2_ := (Option.bind_some _ _).symm.trans H; with_reducible exact H2_) | with_reducible exact H | (rw [hy112]; exact H) | exact H
  have Ny112 := Aside0.mk hy112
  clear hy112
  by_cases c8 : y112.length + l1_6.length < 4398046511104
  ·
   rw [if_pos c8] at H
   have LMc8 := Aside0.mk c8
   clear c8
   obtain ⟨y115, hy115⟩ : ∃ y_ : List (SNode), y_ = (y112 ++ l1_6) := ⟨_, rfl⟩
   replace H : ((verify_Up.f a0 a1_0 a1_1 a1_2 a1_3 a1_4 a1_5 y115).bind fun bt118 => ((paymasterref17_Up.f a0 a1_0 a1_1 a1_2 a1_3 a1_4 a1_5 l1_6).bind fun bt124 => (if (!(bt118.1.toList == bt124.1.toList) || ((!(bt118.2.1 == bt124.2.1) || (!(bt118.2.2.1 == bt124.2.2.1))) || (!(bt118.2.2.2.1 == bt124.2.2.2.1)))) = true then (paymasterlaw17_VerifyUps.j0 k true a1_0 a1_1 a1_2 a1_3 a1_4 a1_5 l1_6 a1_0 a1_1 a1_2 a1_3 a1_4 a1_5 y115) else (paymasterlaw17_VerifyUps.j0 k (bt118.2.2.2.2 != bt124.2.2.2.2) a1_0 a1_1 a1_2 a1_3 a1_4 a1_5 l1_6 a1_0 a1_1 a1_2 a1_3 a1_4 a1_5 y115)))) = some r := by first | (rw [hy115]; with_reducible exact H) | (have H2_ := (Option.bind_some _ _).symm.trans H; rw [hy115]; with_reducible exact H2_) | (have H2_ := (Option.bind_some _ _).symm.trans H; with_reducible exact H2_) | with_reducible exact H | (rw [hy115]; exact H) | exact H
   have Ny115 := Aside0.mk hy115
   clear hy115
   replace H := Option.bind_eq_some_iff.mp H
   obtain ⟨⟨t118, t119, t120, t121, t122⟩, A90, H⟩ := H
   replace H : ((paymasterref17_Up.f a0 a1_0 a1_1 a1_2 a1_3 a1_4 a1_5 l1_6).bind fun bt124 => (if (!(t118.toList == bt124.1.toList) || ((!(t119 == bt124.2.1) || (!(t120 == bt124.2.2.1))) || (!(t121 == bt124.2.2.2.1)))) = true then (paymasterlaw17_VerifyUps.j0 k true a1_0 a1_1 a1_2 a1_3 a1_4 a1_5 l1_6 a1_0 a1_1 a1_2 a1_3 a1_4 a1_5 y115) else (paymasterlaw17_VerifyUps.j0 k (t122 != bt124.2.2.2.2) a1_0 a1_1 a1_2 a1_3 a1_4 a1_5 l1_6 a1_0 a1_1 a1_2 a1_3 a1_4 a1_5 y115))) = some r := H
   have A9 := Aside0.mk A90
   clear A90
   replace H := Option.bind_eq_some_iff.mp H
   obtain ⟨⟨t124, t125, t126, t127, t128⟩, A100, H⟩ := H
   replace H : (if (!(t118.toList == t124.toList) || ((!(t119 == t125) || (!(t120 == t126))) || (!(t121 == t127)))) = true then (paymasterlaw17_VerifyUps.j0 k true a1_0 a1_1 a1_2 a1_3 a1_4 a1_5 l1_6 a1_0 a1_1 a1_2 a1_3 a1_4 a1_5 y115) else (paymasterlaw17_VerifyUps.j0 k (t122 != t128) a1_0 a1_1 a1_2 a1_3 a1_4 a1_5 l1_6 a1_0 a1_1 a1_2 a1_3 a1_4 a1_5 y115)) = some r := H
   have A10 := Aside0.mk A100
   clear A100
   have HC11 := Aside0.mk H
   clear H
   go_enter Tryd.func10, Tryd.ntmps10
   go_upto_region 7 with (first | ((with_reducible refine gate_dst (N := 3) rfl ?_); refine box_event ?hg (N := 3) ?hd (cs := #[.bool a1_0, .string a1_1, .string a1_2, .int .u64 a1_3, .int .u64 a1_4, .int .u64 a1_5, .slice A1_6 l1_6.length c1_6]) (t := 63) ?hr ?_; (case hd => rfl); (case hg => rfl); (case hr => first | (go_simp; done) | (go_simp; rfl)); intro gb109 hg w12 hbox hb; have n0_ := Aside0.mk (below_step (by repeat (first | (with_reducible first | exact HB.out | apply below_alloc | apply pw_below_drewN | apply below_drew1) | exact HB.out)) hb); have n1_ := Aside0.mk (hbox); have n2_ := Aside0.mk ((by rw [hg]; exact (below_size (by repeat (first | (with_reducible first | exact HB.out | apply below_alloc | apply pw_below_drewN | apply below_drew1) | exact HB.out))) : w.heap.size ≤ gb109)); have n3_ := Aside0.mk ((by rw [hg]; exact (below_size (by repeat (first | (with_reducible first | exact HB.out | apply below_alloc | apply pw_below_drewN | apply below_drew1) | exact HB.out))) : w.heap.size ≤ gb109)); clear HB; have HB := n0_; have BK109 := n1_; have GW109 := n2_; have GE109 := n3_; clear n0_ n1_ n2_ n3_; clear hb hbox hg; have hcz13_0 : w12.cell? ⟨gb109, 0, none⟩ = some (.bool a1_0) := (blk_cell BK109.out 0).trans rfl; have hcz13_1 : w12.cell? ⟨gb109, 1, none⟩ = some (.string a1_1) := (blk_cell BK109.out 1).trans rfl; have hcz13_2 : w12.cell? ⟨gb109, 2, none⟩ = some (.string a1_2) := (blk_cell BK109.out 2).trans rfl; have hcz13_3 : w12.cell? ⟨gb109, 3, none⟩ = some (.int .u64 a1_3) := (blk_cell BK109.out 3).trans rfl; have hcz13_4 : w12.cell? ⟨gb109, 4, none⟩ = some (.int .u64 a1_4) := (blk_cell BK109.out 4).trans rfl; have hcz13_5 : w12.cell? ⟨gb109, 5, none⟩ = some (.int .u64 a1_5) := (blk_cell BK109.out 5).trans rfl; have hcz13_6 : w12.cell? ⟨gb109, 6, none⟩ = some (.slice A1_6 l1_6.length c1_6) := (blk_cell BK109.out 6).trans rfl; have hfz13_0 := blk_frozen BK109.out 0; have hfz13_1 := blk_frozen BK109.out 1; have hfz13_2 := blk_frozen BK109.out 2; have hfz13_3 := blk_frozen BK109.out 3; have hfz13_4 := blk_frozen BK109.out 4; have hfz13_5 := blk_frozen BK109.out 5; have hfz13_6 := blk_frozen BK109.out 6) | (go_at_call 27; (with_reducible refine (paymasterlaw16_LongEntry.calls k a1_0 a1_1 a1_2 a1_3 a1_4 a1_5 _ _ l1_6 false _ ?side1 ?side2 A3.out).mono ?_); (case side1 => repeat (first | exact (Kd.C_below HR1_6.out HB.out) | (with_reducible refine Kd.C_alloc ?_ _) | (with_reducible refine Kd.C_drewN ?_ _) | (with_reducible refine Kd.C_drew ?_))); (case side2 => exact HC1_6.out); rintro e w14 ⟨rfl, hb⟩; have n0_ := Aside0.mk (blk_below (g := gb109) (o := .cells #[.bool a1_0, .string a1_1, .string a1_2, .int .u64 a1_3, .int .u64 a1_4, .int .u64 a1_5, .slice A1_6 l1_6.length c1_6] 63 (0, 0)) (by (with_reducible repeat (first | refine blk_drewN ?_ _ | refine blk_drew ?_ | refine blk_alloc ?_ _)); exact BK109.out) hb); have n1_ := Aside0.mk (below_step (by repeat (first | (with_reducible first | exact HB.out | apply below_alloc | apply pw_below_drewN | apply below_drew1 | refine below_set ?_ GE109.out) | exact HB.out)) hb); clear BK109; clear HB; have BK109 := n0_; have HB := n1_; clear n0_ n1_; (try clear hb); (try clear hb2); (try clear hk); (try clear hi); have hcz15_0 : w14.cell? ⟨gb109, 0, none⟩ = some (.bool a1_0) := (blk_cell BK109.out 0).trans rfl; have hcz15_1 : w14.cell? ⟨gb109, 1, none⟩ = some (.string a1_1) := (blk_cell BK109.out 1).trans rfl; have hcz15_2 : w14.cell? ⟨gb109, 2, none⟩ = some (.string a1_2) := (blk_cell BK109.out 2).trans rfl; have hcz15_3 : w14.cell? ⟨gb109, 3, none⟩ = some (.int .u64 a1_3) := (blk_cell BK109.out 3).trans rfl; have hcz15_4 : w14.cell? ⟨gb109, 4, none⟩ = some (.int .u64 a1_4) := (blk_cell BK109.out 4).trans rfl; have hcz15_5 : w14.cell? ⟨gb109, 5, none⟩ = some (.int .u64 a1_5) := (blk_cell BK109.out 5).trans rfl; have hcz15_6 : w14.cell? ⟨gb109, 6, none⟩ = some (.slice A1_6 l1_6.length c1_6) := (blk_cell BK109.out 6).trans rfl; have hfz15_0 := blk_frozen BK109.out 0; have hfz15_1 := blk_frozen BK109.out 1; have hfz15_2 := blk_frozen BK109.out 2; have hfz15_3 := blk_frozen BK109.out 3; have hfz15_4 := blk_frozen BK109.out 4; have hfz15_5 := blk_frozen BK109.out 5; have hfz15_6 := blk_frozen BK109.out 6) | ((with_reducible refine gate_dst (N := 5) rfl ?_); refine box_event ?hg (N := 5) ?hd (cs := #[.bool false, .string (⟨#[]⟩ : ByteArray), .string (⟨#[]⟩ : ByteArray), .int .u64 0, .int .u64 0, .int .u64 0, .slice none 0 0]) (t := 63) ?hr ?_; (case hd => rfl); (case hg => rfl); (case hr => first | (go_simp; done) | (go_simp; rfl)); intro gb111 hg w16 hbox hb; have n0_ := Aside0.mk (blk_below (g := gb109) (o := .cells #[.bool a1_0, .string a1_1, .string a1_2, .int .u64 a1_3, .int .u64 a1_4, .int .u64 a1_5, .slice A1_6 l1_6.length c1_6] 63 (0, 0)) (by (with_reducible repeat (first | refine blk_drewN ?_ _ | refine blk_drew ?_ | refine blk_alloc ?_ _)); exact BK109.out) hb); have n1_ := Aside0.mk (below_step (by repeat (first | (with_reducible first | exact HB.out | apply below_alloc | apply pw_below_drewN | apply below_drew1 | refine below_set ?_ GE109.out) | exact HB.out)) hb); have n2_ := Aside0.mk (hbox); have n3_ := Aside0.mk ((by rw [hg]; exact (below_size (by repeat (first | (with_reducible first | exact HB.out | apply below_alloc | apply pw_below_drewN | apply below_drew1 | refine below_set ?_ GE109.out) | exact HB.out))) : w.heap.size ≤ gb111)); have n4_ := Aside0.mk ((by rw [hg]; exact (below_size (by repeat (first | (with_reducible first | exact HB.out | apply below_alloc | apply pw_below_drewN | apply below_drew1 | refine below_set ?_ GE109.out) | exact HB.out))) : w.heap.size ≤ gb111)); have n5_ := Aside0.mk ((by rw [hg]; exact Nat.ne_of_lt (blk_lt (g := gb109) (o := .cells #[.bool a1_0, .string a1_1, .string a1_2, .int .u64 a1_3, .int .u64 a1_4, .int .u64 a1_5, .slice A1_6 l1_6.length c1_6] 63 (0, 0)) (by (with_reducible repeat (first | refine blk_drewN ?_ _ | refine blk_drew ?_ | refine blk_alloc ?_ _)); exact BK109.out)) : gb109 ≠ gb111)); have n6_ := Aside0.mk ((by rw [hg]; exact Nat.ne_of_gt (blk_lt (g := gb109) (o := .cells #[.bool a1_0, .string a1_1, .string a1_2, .int .u64 a1_3, .int .u64 a1_4, .int .u64 a1_5, .slice A1_6 l1_6.length c1_6] 63 (0, 0)) (by (with_reducible repeat (first | refine blk_drewN ?_ _ | refine blk_drew ?_ | refine blk_alloc ?_ _)); exact BK109.out)) : gb111 ≠ gb109)); clear BK109; clear HB; have BK109 := n0_; have HB := n1_; have BK111 := n2_; have GW111 := n3_; have GE111 := n4_; have NB109_111 := n5_; have NB111_109 := n6_; clear n0_ n1_ n2_ n3_ n4_ n5_ n6_; clear hb hbox hg; have hnb17 := NB111_109.out; have hnc17 := NB109_111.out; have hcz18_0 : w16.cell? ⟨gb111, 0, none⟩ = some (.bool false) := (blk_cell BK111.out 0).trans rfl; have hcz18_1 : w16.cell? ⟨gb111, 1, none⟩ = some (.string (⟨#[]⟩ : ByteArray)) := (blk_cell BK111.out 1).trans rfl; have hcz18_2 : w16.cell? ⟨gb111, 2, none⟩ = some (.string (⟨#[]⟩ : ByteArray)) := (blk_cell BK111.out 2).trans rfl; have hcz18_3 : w16.cell? ⟨gb111, 3, none⟩ = some (.int .u64 0) := (blk_cell BK111.out 3).trans rfl; have hcz18_4 : w16.cell? ⟨gb111, 4, none⟩ = some (.int .u64 0) := (blk_cell BK111.out 4).trans rfl; have hcz18_5 : w16.cell? ⟨gb111, 5, none⟩ = some (.int .u64 0) := (blk_cell BK111.out 5).trans rfl; have hcz18_6 : w16.cell? ⟨gb111, 6, none⟩ = some (.slice none 0 0) := (blk_cell BK111.out 6).trans rfl; have hfz18_0 := blk_frozen BK111.out 0; have hfz18_1 := blk_frozen BK111.out 1; have hfz18_2 := blk_frozen BK111.out 2; have hfz18_3 := blk_frozen BK111.out 3; have hfz18_4 := blk_frozen BK111.out 4; have hfz18_5 := blk_frozen BK111.out 5; have hfz18_6 := blk_frozen BK111.out 6) | ((with_reducible refine gate_dst (N := 14) rfl ?_); refine Kd.R_lit kNode _ 26 ?hg (N := 14) ?hd (xs := ([] : List (SNode))) (inner := []) (ok := fun _ => True) (okp := fun _ => True) ?hr ?hp (fun _ hk => hk) trivial (Below.refl _ _) (Nat.le_refl _) (by simp) ?_; (case hd => rfl); (case hg => rfl); (case hr => first | (go_simp; done) | (go_simp; rfl)); (case hp => exact (Reps.none _ _)); intro v113 w19 ho20 hb hg_ hnew_; clear hg_ hnew_; (first | rw [← Ny112.out] at ho20 | (simp only [Int.reduceToNat] at ho20; rw [← Ny112.out] at ho20)); have n0_ := Aside0.mk (Kd.R_lower ho20 (below_size (by repeat (first | (with_reducible first | exact HB.out | apply below_alloc | apply pw_below_drewN | apply below_drew1 | refine below_set ?_ GE109.out | refine below_set ?_ GE111.out) | exact HB.out)))); have n1_ := Aside0.mk (blk_below (g := gb109) (o := .cells #[.bool a1_0, .string a1_1, .string a1_2, .int .u64 a1_3, .int .u64 a1_4, .int .u64 a1_5, .slice A1_6 l1_6.length c1_6] 63 (0, 0)) (by (with_reducible repeat (first | refine blk_drewN ?_ _ | refine blk_drew ?_ | refine blk_alloc ?_ _)); refine blk_far ?_ NB109_111.out _; (with_reducible repeat (first | refine blk_drewN ?_ _ | refine blk_drew ?_ | refine blk_alloc ?_ _)); refine blk_far ?_ NB109_111.out _; (with_reducible repeat (first | refine blk_drewN ?_ _ | refine blk_drew ?_ | refine blk_alloc ?_ _)); refine blk_far ?_ NB109_111.out _; (with_reducible repeat (first | refine blk_drewN ?_ _ | refine blk_drew ?_ | refine blk_alloc ?_ _)); refine blk_far ?_ NB109_111.out _; (with_reducible repeat (first | refine blk_drewN ?_ _ | refine blk_drew ?_ | refine blk_alloc ?_ _)); refine blk_far ?_ NB109_111.out _; (with_reducible repeat (first | refine blk_drewN ?_ _ | refine blk_drew ?_ | refine blk_alloc ?_ _)); refine blk_far ?_ NB109_111.out _; (with_reducible repeat (first | refine blk_drewN ?_ _ | refine blk_drew ?_ | refine blk_alloc ?_ _)); refine blk_far ?_ NB109_111.out _; (with_reducible repeat (first | refine blk_drewN ?_ _ | refine blk_drew ?_ | refine blk_alloc ?_ _)); exact BK109.out) hb); have n2_ := Aside0.mk (blk_below (g := gb111) (o := .cells #[.bool a1_0, .string a1_1, .string a1_2, .int .u64 a1_3, .int .u64 a1_4, .int .u64 a1_5, .slice A1_6 l1_6.length c1_6] 63 (0, 0)) (by (with_reducible repeat (first | refine blk_drewN ?_ _ | refine blk_drew ?_ | refine blk_alloc ?_ _)); refine blk_put (cs := #[.bool a1_0, .string a1_1, .string a1_2, .int .u64 a1_3, .int .u64 a1_4, .int .u64 a1_5, .slice none 0 0]) ?_ 6 _ rfl; (with_reducible repeat (first | refine blk_drewN ?_ _ | refine blk_drew ?_ | refine blk_alloc ?_ _)); refine blk_put (cs := #[.bool a1_0, .string a1_1, .string a1_2, .int .u64 a1_3, .int .u64 a1_4, .int .u64 0, .slice none 0 0]) ?_ 5 _ rfl; (with_reducible repeat (first | refine blk_drewN ?_ _ | refine blk_drew ?_ | refine blk_alloc ?_ _)); refine blk_put (cs := #[.bool a1_0, .string a1_1, .string a1_2, .int .u64 a1_3, .int .u64 0, .int .u64 0, .slice none 0 0]) ?_ 4 _ rfl; (with_reducible repeat (first | refine blk_drewN ?_ _ | refine blk_drew ?_ | refine blk_alloc ?_ _)); refine blk_put (cs := #[.bool a1_0, .string a1_1, .string a1_2, .int .u64 0, .int .u64 0, .int .u64 0, .slice none 0 0]) ?_ 3 _ rfl; (with_reducible repeat (first | refine blk_drewN ?_ _ | refine blk_drew ?_ | refine blk_alloc ?_ _)); refine blk_put (cs := #[.bool a1_0, .string a1_1, .string (⟨#[]⟩ : ByteArray), .int .u64 0, .int .u64 0, .int .u64 0, .slice none 0 0]) ?_ 2 _ rfl; (with_reducible repeat (first | refine blk_drewN ?_ _ | refine blk_drew ?_ | refine blk_alloc ?_ _)); refine blk_put (cs := #[.bool a1_0, .string (⟨#[]⟩ : ByteArray), .string (⟨#[]⟩ : ByteArray), .int .u64 0, .int .u64 0, .int .u64 0, .slice none 0 0]) ?_ 1 _ rfl; (with_reducible repeat (first | refine blk_drewN ?_ _ | refine blk_drew ?_ | refine blk_alloc ?_ _)); refine blk_put (cs := #[.bool false, .string (⟨#[]⟩ : ByteArray), .string (⟨#[]⟩ : ByteArray), .int .u64 0, .int .u64 0, .int .u64 0, .slice none 0 0]) ?_ 0 _ rfl; (with_reducible repeat (first | refine blk_drewN ?_ _ | refine blk_drew ?_ | refine blk_alloc ?_ _)); exact BK111.out) hb); have n3_ := Aside0.mk (below_step (by repeat (first | (with_reducible first | exact HB.out | apply below_alloc | apply pw_below_drewN | apply below_drew1 | refine below_set ?_ GE109.out | refine below_set ?_ GE111.out) | exact HB.out)) hb); clear BK109; clear BK111; clear HB; have HO114 := n0_; have BK109 := n1_; have BK111 := n2_; have HB := n3_; clear n0_ n1_ n2_ n3_; clear hb ho20; have hcz21_0 : w19.cell? ⟨gb109, 0, none⟩ = some (.bool a1_0) := (blk_cell BK109.out 0).trans rfl; have hcz21_1 : w19.cell? ⟨gb109, 1, none⟩ = some (.string a1_1) := (blk_cell BK109.out 1).trans rfl; have hcz21_2 : w19.cell? ⟨gb109, 2, none⟩ = some (.string a1_2) := (blk_cell BK109.out 2).trans rfl; have hcz21_3 : w19.cell? ⟨gb109, 3, none⟩ = some (.int .u64 a1_3) := (blk_cell BK109.out 3).trans rfl; have hcz21_4 : w19.cell? ⟨gb109, 4, none⟩ = some (.int .u64 a1_4) := (blk_cell BK109.out 4).trans rfl; have hcz21_5 : w19.cell? ⟨gb109, 5, none⟩ = some (.int .u64 a1_5) := (blk_cell BK109.out 5).trans rfl; have hcz21_6 : w19.cell? ⟨gb109, 6, none⟩ = some (.slice A1_6 l1_6.length c1_6) := (blk_cell BK109.out 6).trans rfl; have hfz21_0 := blk_frozen BK109.out 0; have hfz21_1 := blk_frozen BK109.out 1; have hfz21_2 := blk_frozen BK109.out 2; have hfz21_3 := blk_frozen BK109.out 3; have hfz21_4 := blk_frozen BK109.out 4; have hfz21_5 := blk_frozen BK109.out 5; have hfz21_6 := blk_frozen BK109.out 6) | ((with_reducible refine gate_builtin (b := .append) (xs := #[.tmp 14, .tmp 17]) rfl ?_); at_builtin; refine Kd.R_append_rows kNode (w0 := w) w.heap.size rfl (.tmp 14) (.tmp 17) 27 26 (.agg #[(.string ⟨#[]⟩), (.int .u64 0), (.int .u64 0)]) 32 rfl Tryd.underlying27 infoNode rfl (by decide) (by omega) v113 y112 l1_6 _ _ _ (fun _ => True) (fun _ => False) rfl rfl ?aO ?aR (fun _ _ h => h) (fun _ h => h.elim) ?aF ?aB ?aS ?aL ?_; (case aR => repeat (first | exact (Kd.C_below HR1_6.out HB.out) | (with_reducible refine Kd.C_alloc ?_ _) | (with_reducible refine Kd.C_drewN ?_ _) | (with_reducible refine Kd.C_drew ?_))); (case aB => exact (by repeat (first | (with_reducible first | exact HB.out | apply below_alloc | apply pw_below_drewN | apply below_drew1 | refine below_set ?_ GE109.out | refine below_set ?_ GE111.out) | exact HB.out))); (case aF => exact (fun _ _ => trivial)); (case aO => exact (by (with_reducible repeat (first | apply Kd.R_alloc | apply Kd.R_drewN | apply Kd.R_drew)); exact HO114.out)); (case aS => exact (below_size (by repeat (first | (with_reducible first | exact HB.out | apply below_alloc | apply pw_below_drewN | apply below_drew1 | refine below_set ?_ GE109.out | refine below_set ?_ GE111.out) | exact HB.out)))); (case aL => have := LMc8.out; omega); intro v116 w22 ho hb hg hat; rw [← Ny115.out] at ho; have n0_ := Aside0.mk (blk_grown (g := gb109) (o := .cells #[.bool a1_0, .string a1_1, .string a1_2, .int .u64 a1_3, .int .u64 a1_4, .int .u64 a1_5, .slice A1_6 l1_6.length c1_6] 63 (0, 0)) (by (with_reducible repeat (first | refine blk_drewN ?_ _ | refine blk_drew ?_ | refine blk_alloc ?_ _)); exact BK109.out) hg (Kd.R_ne HO114.out BK109.out (by decide))); have n1_ := Aside0.mk (blk_grown (g := gb111) (o := .cells #[.bool a1_0, .string a1_1, .string a1_2, .int .u64 a1_3, .int .u64 a1_4, .int .u64 a1_5, .slice A1_6 l1_6.length c1_6] 63 (0, 0)) (by (with_reducible repeat (first | refine blk_drewN ?_ _ | refine blk_drew ?_ | refine blk_alloc ?_ _)); exact BK111.out) hg (Kd.R_ne HO114.out BK111.out (by decide))); have n2_ := Aside0.mk (hb); have n3_ := Aside0.mk (ho); clear BK109; clear BK111; clear HB; clear HO114; have BK109 := n0_; have BK111 := n1_; have HB := n2_; have HO117 := n3_; clear n0_ n1_ n2_ n3_; clear ho hb hg hat; obtain ⟨Ao23, co23, eo23⟩ := Kd.R_slice HO117.out; subst eo23; have hcz24_0 : w22.cell? ⟨gb111, 0, none⟩ = some (.bool a1_0) := (blk_cell BK111.out 0).trans rfl; have hcz24_1 : w22.cell? ⟨gb111, 1, none⟩ = some (.string a1_1) := (blk_cell BK111.out 1).trans rfl; have hcz24_2 : w22.cell? ⟨gb111, 2, none⟩ = some (.string a1_2) := (blk_cell BK111.out 2).trans rfl; have hcz24_3 : w22.cell? ⟨gb111, 3, none⟩ = some (.int .u64 a1_3) := (blk_cell BK111.out 3).trans rfl; have hcz24_4 : w22.cell? ⟨gb111, 4, none⟩ = some (.int .u64 a1_4) := (blk_cell BK111.out 4).trans rfl; have hcz24_5 : w22.cell? ⟨gb111, 5, none⟩ = some (.int .u64 a1_5) := (blk_cell BK111.out 5).trans rfl; have hcz24_6 : w22.cell? ⟨gb111, 6, none⟩ = some (.slice A1_6 l1_6.length c1_6) := (blk_cell BK111.out 6).trans rfl; have hfz24_0 := blk_frozen BK111.out 0; have hfz24_1 := blk_frozen BK111.out 1; have hfz24_2 := blk_frozen BK111.out 2; have hfz24_3 := blk_frozen BK111.out 3; have hfz24_4 := blk_frozen BK111.out 4; have hfz24_5 := blk_frozen BK111.out 5; have hfz24_6 := blk_frozen BK111.out 6) | (go_at_call 28; (with_reducible refine (verify_Up.calls a0 a1_0 a1_1 a1_2 a1_3 a1_4 a1_5 _ _ y115 t118 t119 t120 t121 t122 _ ?side1 ?side2 ?side3 A9.out).mono ?_); (case side1 => exact LaidT.below HLD.out (by repeat (first | (with_reducible first | exact HB.out | apply below_alloc | apply pw_below_drewN | apply below_drew1 | refine below_set ?_ GE109.out | refine below_set ?_ GE111.out) | exact HB.out))); (case side2 => refine (Kd.R_reads' (e := 26) (base := w.heap.size) (ok := fun k_ => True) (n := y115.length) (c := co23) ?_).2.2; exact (by (with_reducible repeat (first | apply Kd.R_alloc | apply Kd.R_drewN | apply Kd.R_drew)); exact (Kd.R_mono (Kd.R_far (p := ⟨gb111, 6, none⟩) (Kd.R_types HO117.out BK111.out (by decide)) (fun _ hk => hk.2) (.slice Ao23 y115.length co23)) (fun _ h_ => h_.1)))); (case side3 => exact (Kd.R_reads' HO117.out).2.1); rintro e w25 ⟨rfl, hb⟩; have n0_ := Aside0.mk (Kd.R_below (by (with_reducible repeat (first | apply Kd.R_alloc | apply Kd.R_drewN | apply Kd.R_drew)); exact (Kd.R_mono (Kd.R_far (p := ⟨gb111, 6, none⟩) (Kd.R_types HO117.out BK111.out (by decide)) (fun _ hk => hk.2) (.slice Ao23 y115.length co23)) (fun _ h_ => h_.1))) hb); have n1_ := Aside0.mk (blk_below (g := gb109) (o := .cells #[.bool a1_0, .string a1_1, .string a1_2, .int .u64 a1_3, .int .u64 a1_4, .int .u64 a1_5, .slice A1_6 l1_6.length c1_6] 63 (0, 0)) (by (with_reducible repeat (first | refine blk_drewN ?_ _ | refine blk_drew ?_ | refine blk_alloc ?_ _)); refine blk_far ?_ NB109_111.out _; (with_reducible repeat (first | refine blk_drewN ?_ _ | refine blk_drew ?_ | refine blk_alloc ?_ _)); exact BK109.out) hb); have n2_ := Aside0.mk (blk_below (g := gb111) (o := .cells #[.bool a1_0, .string a1_1, .string a1_2, .int .u64 a1_3, .int .u64 a1_4, .int .u64 a1_5, .slice Ao23 y115.length co23] 63 (0, 0)) (by (with_reducible repeat (first | refine blk_drewN ?_ _ | refine blk_drew ?_ | refine blk_alloc ?_ _)); refine blk_put (cs := #[.bool a1_0, .string a1_1, .string a1_2, .int .u64 a1_3, .int .u64 a1_4, .int .u64 a1_5, .slice A1_6 l1_6.length c1_6]) ?_ 6 _ rfl; (with_reducible repeat (first | refine blk_drewN ?_ _ | refine blk_drew ?_ | refine blk_alloc ?_ _)); exact BK111.out) hb); have n3_ := Aside0.mk (below_step (by repeat (first | (with_reducible first | exact HB.out | apply below_alloc | apply pw_below_drewN | apply below_drew1 | refine below_set ?_ GE109.out | refine below_set ?_ GE111.out) | exact HB.out)) hb); clear HO117; clear BK109; clear BK111; clear HB; have HO117 := n0_; have BK109 := n1_; have BK111 := n2_; have HB := n3_; clear n0_ n1_ n2_ n3_; (try clear hb); (try clear hb2); (try clear hk); (try clear hi)) | ((with_reducible refine gate_dst (N := 6) rfl ?_); refine box_event ?hg (N := 6) ?hd (cs := #[.string (⟨#[]⟩ : ByteArray), .int .u64 0, .int .u64 0, .int .i64 0]) (t := 66) ?hr ?_; (case hd => rfl); (case hg => rfl); (case hr => first | (go_simp; done) | (go_simp; rfl)); intro gb123 hg w26 hbox hb; have n0_ := Aside0.mk (Kd.R_below (by (with_reducible repeat (first | apply Kd.R_alloc | apply Kd.R_drewN | apply Kd.R_drew)); exact HO117.out) hb); have n1_ := Aside0.mk (blk_below (g := gb109) (o := .cells #[.bool a1_0, .string a1_1, .string a1_2, .int .u64 a1_3, .int .u64 a1_4, .int .u64 a1_5, .slice A1_6 l1_6.length c1_6] 63 (0, 0)) (by (with_reducible repeat (first | refine blk_drewN ?_ _ | refine blk_drew ?_ | refine blk_alloc ?_ _)); exact BK109.out) hb); have n2_ := Aside0.mk (blk_below (g := gb111) (o := .cells #[.bool a1_0, .string a1_1, .string a1_2, .int .u64 a1_3, .int .u64 a1_4, .int .u64 a1_5, .slice Ao23 y115.length co23] 63 (0, 0)) (by (with_reducible repeat (first | refine blk_drewN ?_ _ | refine blk_drew ?_ | refine blk_alloc ?_ _)); exact BK111.out) hb); have n3_ := Aside0.mk (below_step (by repeat (first | (with_reducible first | exact HB.out | apply below_alloc | apply pw_below_drewN | apply below_drew1 | refine below_set ?_ GE109.out | refine below_set ?_ GE111.out) | exact HB.out)) hb); have n4_ := Aside0.mk (hbox); have n5_ := Aside0.mk ((by rw [hg]; exact (below_size (by repeat (first | (with_reducible first | exact HB.out | apply below_alloc | apply pw_below_drewN | apply below_drew1 | refine below_set ?_ GE109.out | refine below_set ?_ GE111.out) | exact HB.out))) : w.heap.size ≤ gb123)); have n6_ := Aside0.mk ((by rw [hg]; exact (below_size (by repeat (first | (with_reducible first | exact HB.out | apply below_alloc | apply pw_below_drewN | apply below_drew1 | refine below_set ?_ GE109.out | refine below_set ?_ GE111.out) | exact HB.out))) : w.heap.size ≤ gb123)); have n7_ := Aside0.mk ((by rw [hg]; exact Nat.ne_of_lt (blk_lt (g := gb109) (o := .cells #[.bool a1_0, .string a1_1, .string a1_2, .int .u64 a1_3, .int .u64 a1_4, .int .u64 a1_5, .slice A1_6 l1_6.length c1_6] 63 (0, 0)) (by (with_reducible repeat (first | refine blk_drewN ?_ _ | refine blk_drew ?_ | refine blk_alloc ?_ _)); exact BK109.out)) : gb109 ≠ gb123)); have n8_ := Aside0.mk ((by rw [hg]; exact Nat.ne_of_gt (blk_lt (g := gb109) (o := .cells #[.bool a1_0, .string a1_1, .string a1_2, .int .u64 a1_3, .int .u64 a1_4, .int .u64 a1_5, .slice A1_6 l1_6.length c1_6] 63 (0, 0)) (by (with_reducible repeat (first | refine blk_drewN ?_ _ | refine blk_drew ?_ | refine blk_alloc ?_ _)); exact BK109.out)) : gb123 ≠ gb109)); have n9_ := Aside0.mk ((by rw [hg]; exact Nat.ne_of_lt (blk_lt (g := gb111) (o := .cells #[.bool a1_0, .string a1_1, .string a1_2, .int .u64 a1_3, .int .u64 a1_4, .int .u64 a1_5, .slice Ao23 y115.length co23] 63 (0, 0)) (by (with_reducible repeat (first | refine blk_drewN ?_ _ | refine blk_drew ?_ | refine blk_alloc ?_ _)); exact BK111.out)) : gb111 ≠ gb123)); have n10_ := Aside0.mk ((by rw [hg]; exact Nat.ne_of_gt (blk_lt (g := gb111) (o := .cells #[.bool a1_0, .string a1_1, .string a1_2, .int .u64 a1_3, .int .u64 a1_4, .int .u64 a1_5, .slice Ao23 y115.length co23] 63 (0, 0)) (by (with_reducible repeat (first | refine blk_drewN ?_ _ | refine blk_drew ?_ | refine blk_alloc ?_ _)); exact BK111.out)) : gb123 ≠ gb111)); clear HO117; clear BK109; clear BK111; clear HB; have HO117 := n0_; have BK109 := n1_; have BK111 := n2_; have HB := n3_; have BK123 := n4_; have GW123 := n5_; have GE123 := n6_; have NB109_123 := n7_; have NB123_109 := n8_; have NB111_123 := n9_; have NB123_111 := n10_; clear n0_ n1_ n2_ n3_ n4_ n5_ n6_ n7_ n8_ n9_ n10_; clear hb hbox hg; have hnb27 := NB123_109.out; have hnc27 := NB109_123.out; have hnb28 := NB123_111.out; have hnc28 := NB111_123.out; have hcz29_0 : w26.cell? ⟨gb123, 0, none⟩ = some (.string (⟨#[]⟩ : ByteArray)) := (blk_cell BK123.out 0).trans rfl; have hcz29_1 : w26.cell? ⟨gb123, 1, none⟩ = some (.int .u64 0) := (blk_cell BK123.out 1).trans rfl; have hcz29_2 : w26.cell? ⟨gb123, 2, none⟩ = some (.int .u64 0) := (blk_cell BK123.out 2).trans rfl; have hcz29_3 : w26.cell? ⟨gb123, 3, none⟩ = some (.int .i64 0) := (blk_cell BK123.out 3).trans rfl; have hfz29_0 := blk_frozen BK123.out 0; have hfz29_1 := blk_frozen BK123.out 1; have hfz29_2 := blk_frozen BK123.out 2; have hfz29_3 := blk_frozen BK123.out 3; have hcz30_0 : w26.cell? ⟨gb109, 0, none⟩ = some (.bool a1_0) := (blk_cell BK109.out 0).trans rfl; have hcz30_1 : w26.cell? ⟨gb109, 1, none⟩ = some (.string a1_1) := (blk_cell BK109.out 1).trans rfl; have hcz30_2 : w26.cell? ⟨gb109, 2, none⟩ = some (.string a1_2) := (blk_cell BK109.out 2).trans rfl; have hcz30_3 : w26.cell? ⟨gb109, 3, none⟩ = some (.int .u64 a1_3) := (blk_cell BK109.out 3).trans rfl; have hcz30_4 : w26.cell? ⟨gb109, 4, none⟩ = some (.int .u64 a1_4) := (blk_cell BK109.out 4).trans rfl; have hcz30_5 : w26.cell? ⟨gb109, 5, none⟩ = some (.int .u64 a1_5) := (blk_cell BK109.out 5).trans rfl; have hcz30_6 : w26.cell? ⟨gb109, 6, none⟩ = some (.slice A1_6 l1_6.length c1_6) := (blk_cell BK109.out 6).trans rfl; have hfz30_0 := blk_frozen BK109.out 0; have hfz30_1 := blk_frozen BK109.out 1; have hfz30_2 := blk_frozen BK109.out 2; have hfz30_3 := blk_frozen BK109.out 3; have hfz30_4 := blk_frozen BK109.out 4; have hfz30_5 := blk_frozen BK109.out 5; have hfz30_6 := blk_frozen BK109.out 6) | (go_at_call 29; (with_reducible refine (paymasterref17_Up.calls a0 a1_0 a1_1 a1_2 a1_3 a1_4 a1_5 _ _ l1_6 t124 t125 t126 t127 t128 _ ?side1 ?side2 ?side3 A10.out).mono ?_); (case side1 => exact LaidT.below HLD.out (by repeat (first | (with_reducible first | exact HB.out | apply below_alloc | apply pw_below_drewN | apply below_drew1 | refine below_set ?_ GE109.out | refine below_set ?_ GE111.out | refine below_set ?_ GE123.out) | exact HB.out))); (case side2 => exact Kd.C_below HR1_6.out (by repeat (first | (with_reducible first | exact HB.out | apply below_alloc | apply pw_below_drewN | apply below_drew1 | refine below_set ?_ GE109.out | refine below_set ?_ GE111.out | refine below_set ?_ GE123.out) | exact HB.out))); (case side3 => exact HC1_6.out); rintro e w31 ⟨rfl, hb⟩; have n0_ := Aside0.mk (Kd.R_below (by (with_reducible repeat (first | apply Kd.R_alloc | apply Kd.R_drewN | apply Kd.R_drew)); exact (Kd.R_mono (Kd.R_far (p := ⟨gb123, 3, none⟩) (Kd.R_far (p := ⟨gb123, 2, none⟩) (Kd.R_far (p := ⟨gb123, 1, none⟩) (Kd.R_far (p := ⟨gb123, 0, none⟩) (Kd.R_types HO117.out BK123.out (by decide)) (fun _ hk => hk.2) (.string t118)) (fun _ hk => hk.2) (.int .u64 t119)) (fun _ hk => hk.2) (.int .u64 t120)) (fun _ hk => hk.2) (.int .i64 t121)) (fun _ h_ => h_.1))) hb); have n1_ := Aside0.mk (blk_below (g := gb109) (o := .cells #[.bool a1_0, .string a1_1, .string a1_2, .int .u64 a1_3, .int .u64 a1_4, .int .u64 a1_5, .slice A1_6 l1_6.length c1_6] 63 (0, 0)) (by (with_reducible repeat (first | refine blk_drewN ?_ _ | refine blk_drew ?_ | refine blk_alloc ?_ _)); refine blk_far ?_ NB109_123.out _; (with_reducible repeat (first | refine blk_drewN ?_ _ | refine blk_drew ?_ | refine blk_alloc ?_ _)); refine blk_far ?_ NB109_123.out _; (with_reducible repeat (first | refine blk_drewN ?_ _ | refine blk_drew ?_ | refine blk_alloc ?_ _)); refine blk_far ?_ NB109_123.out _; (with_reducible repeat (first | refine blk_drewN ?_ _ | refine blk_drew ?_ | refine blk_alloc ?_ _)); refine blk_far ?_ NB109_123.out _; (with_reducible repeat (first | refine blk_drewN ?_ _ | refine blk_drew ?_ | refine blk_alloc ?_ _)); exact BK109.out) hb); have n2_ := Aside0.mk (blk_below (g := gb111) (o := .cells #[.bool a1_0, .string a1_1, .string a1_2, .int .u64 a1_3, .int .u64 a1_4, .int .u64 a1_5, .slice Ao23 y115.length co23] 63 (0, 0)) (by (with_reducible repeat (first | refine blk_drewN ?_ _ | refine blk_drew ?_ | refine blk_alloc ?_ _)); refine blk_far ?_ NB111_123.out _; (with_reducible repeat (first | refine blk_drewN ?_ _ | refine blk_drew ?_ | refine blk_alloc ?_ _)); refine blk_far ?_ NB111_123.out _; (with_reducible repeat (first | refine blk_drewN ?_ _ | refine blk_drew ?_ | refine blk_alloc ?_ _)); refine blk_far ?_ NB111_123.out _; (with_reducible repeat (first | refine blk_drewN ?_ _ | refine blk_drew ?_ | refine blk_alloc ?_ _)); refine blk_far ?_ NB111_123.out _; (with_reducible repeat (first | refine blk_drewN ?_ _ | refine blk_drew ?_ | refine blk_alloc ?_ _)); exact BK111.out) hb); have n3_ := Aside0.mk (blk_below (g := gb123) (o := .cells #[.string t118, .int .u64 t119, .int .u64 t120, .int .i64 t121] 66 (0, 0)) (by (with_reducible repeat (first | refine blk_drewN ?_ _ | refine blk_drew ?_ | refine blk_alloc ?_ _)); refine blk_put (cs := #[.string t118, .int .u64 t119, .int .u64 t120, .int .i64 0]) ?_ 3 _ rfl; (with_reducible repeat (first | refine blk_drewN ?_ _ | refine blk_drew ?_ | refine blk_alloc ?_ _)); refine blk_put (cs := #[.string t118, .int .u64 t119, .int .u64 0, .int .i64 0]) ?_ 2 _ rfl; (with_reducible repeat (first | refine blk_drewN ?_ _ | refine blk_drew ?_ | refine blk_alloc ?_ _)); refine blk_put (cs := #[.string t118, .int .u64 0, .int .u64 0, .int .i64 0]) ?_ 1 _ rfl; (with_reducible repeat (first | refine blk_drewN ?_ _ | refine blk_drew ?_ | refine blk_alloc ?_ _)); refine blk_put (cs := #[.string (⟨#[]⟩ : ByteArray), .int .u64 0, .int .u64 0, .int .i64 0]) ?_ 0 _ rfl; (with_reducible repeat (first | refine blk_drewN ?_ _ | refine blk_drew ?_ | refine blk_alloc ?_ _)); exact BK123.out) hb); have n4_ := Aside0.mk (below_step (by repeat (first | (with_reducible first | exact HB.out | apply below_alloc | apply pw_below_drewN | apply below_drew1 | refine below_set ?_ GE109.out | refine below_set ?_ GE111.out | refine below_set ?_ GE123.out) | exact HB.out)) hb); clear HO117; clear BK109; clear BK111; clear BK123; clear HB; have HO117 := n0_; have BK109 := n1_; have BK111 := n2_; have BK123 := n3_; have HB := n4_; clear n0_ n1_ n2_ n3_ n4_; (try clear hb); (try clear hb2); (try clear hk); (try clear hi)) | ((with_reducible refine gate_dst (N := 8) rfl ?_); refine box_event ?hg (N := 8) ?hd (cs := #[.string (⟨#[]⟩ : ByteArray), .int .u64 0, .int .u64 0, .int .i64 0]) (t := 66) ?hr ?_; (case hd => rfl); (case hg => rfl); (case hr => first | (go_simp; done) | (go_simp; rfl)); intro gb129 hg w32 hbox hb; have n0_ := Aside0.mk (Kd.R_below (by (with_reducible repeat (first | apply Kd.R_alloc | apply Kd.R_drewN | apply Kd.R_drew)); exact HO117.out) hb); have n1_ := Aside0.mk (blk_below (g := gb109) (o := .cells #[.bool a1_0, .string a1_1, .string a1_2, .int .u64 a1_3, .int .u64 a1_4, .int .u64 a1_5, .slice A1_6 l1_6.length c1_6] 63 (0, 0)) (by (with_reducible repeat (first | refine blk_drewN ?_ _ | refine blk_drew ?_ | refine blk_alloc ?_ _)); exact BK109.out) hb); have n2_ := Aside0.mk (blk_below (g := gb111) (o := .cells #[.bool a1_0, .string a1_1, .string a1_2, .int .u64 a1_3, .int .u64 a1_4, .int .u64 a1_5, .slice Ao23 y115.length co23] 63 (0, 0)) (by (with_reducible repeat (first | refine blk_drewN ?_ _ | refine blk_drew ?_ | refine blk_alloc ?_ _)); exact BK111.out) hb); have n3_ := Aside0.mk (blk_below (g := gb123) (o := .cells #[.string t118, .int .u64 t119, .int .u64 t120, .int .i64 t121] 66 (0, 0)) (by (with_reducible repeat (first | refine blk_drewN ?_ _ | refine blk_drew ?_ | refine blk_alloc ?_ _)); exact BK123.out) hb); have n4_ := Aside0.mk (below_step (by repeat (first | (with_reducible first | exact HB.out | apply below_alloc | apply pw_below_drewN | apply below_drew1 | refine below_set ?_ GE109.out | refine below_set ?_ GE111.out | refine below_set ?_ GE123.out) | exact HB.out)) hb); have n5_ := Aside0.mk (hbox); have n6_ := Aside0.mk ((by rw [hg]; exact (below_size (by repeat (first | (with_reducible first | exact HB.out | apply below_alloc | apply pw_below_drewN | apply below_drew1 | refine below_set ?_ GE109.out | refine below_set ?_ GE111.out | refine below_set ?_ GE123.out) | exact HB.out))) : w.heap.size ≤ gb129)); have n7_ := Aside0.mk ((by rw [hg]; exact (below_size (by repeat (first | (with_reducible first | exact HB.out | apply below_alloc | apply pw_below_drewN | apply below_drew1 | refine below_set ?_ GE109.out | refine below_set ?_ GE111.out | refine below_set ?_ GE123.out) | exact HB.out))) : w.heap.size ≤ gb129)); have n8_ := Aside0.mk ((by rw [hg]; exact Nat.ne_of_lt (blk_lt (g := gb109) (o := .cells #[.bool a1_0, .string a1_1, .string a1_2, .int .u64 a1_3, .int .u64 a1_4, .int .u64 a1_5, .slice A1_6 l1_6.length c1_6] 63 (0, 0)) (by (with_reducible repeat (first | refine blk_drewN ?_ _ | refine blk_drew ?_ | refine blk_alloc ?_ _)); exact BK109.out)) : gb109 ≠ gb129)); have n9_ := Aside0.mk ((by rw [hg]; exact Nat.ne_of_gt (blk_lt (g := gb109) (o := .cells #[.bool a1_0, .string a1_1, .string a1_2, .int .u64 a1_3, .int .u64 a1_4, .int .u64 a1_5, .slice A1_6 l1_6.length c1_6] 63 (0, 0)) (by (with_reducible repeat (first | refine blk_drewN ?_ _ | refine blk_drew ?_ | refine blk_alloc ?_ _)); exact BK109.out)) : gb129 ≠ gb109)); have n10_ := Aside0.mk ((by rw [hg]; exact Nat.ne_of_lt (blk_lt (g := gb111) (o := .cells #[.bool a1_0, .string a1_1, .string a1_2, .int .u64 a1_3, .int .u64 a1_4, .int .u64 a1_5, .slice Ao23 y115.length co23] 63 (0, 0)) (by (with_reducible repeat (first | refine blk_drewN ?_ _ | refine blk_drew ?_ | refine blk_alloc ?_ _)); exact BK111.out)) : gb111 ≠ gb129)); have n11_ := Aside0.mk ((by rw [hg]; exact Nat.ne_of_gt (blk_lt (g := gb111) (o := .cells #[.bool a1_0, .string a1_1, .string a1_2, .int .u64 a1_3, .int .u64 a1_4, .int .u64 a1_5, .slice Ao23 y115.length co23] 63 (0, 0)) (by (with_reducible repeat (first | refine blk_drewN ?_ _ | refine blk_drew ?_ | refine blk_alloc ?_ _)); exact BK111.out)) : gb129 ≠ gb111)); have n12_ := Aside0.mk ((by rw [hg]; exact Nat.ne_of_lt (blk_lt (g := gb123) (o := .cells #[.string t118, .int .u64 t119, .int .u64 t120, .int .i64 t121] 66 (0, 0)) (by (with_reducible repeat (first | refine blk_drewN ?_ _ | refine blk_drew ?_ | refine blk_alloc ?_ _)); exact BK123.out)) : gb123 ≠ gb129)); have n13_ := Aside0.mk ((by rw [hg]; exact Nat.ne_of_gt (blk_lt (g := gb123) (o := .cells #[.string t118, .int .u64 t119, .int .u64 t120, .int .i64 t121] 66 (0, 0)) (by (with_reducible repeat (first | refine blk_drewN ?_ _ | refine blk_drew ?_ | refine blk_alloc ?_ _)); exact BK123.out)) : gb129 ≠ gb123)); clear HO117; clear BK109; clear BK111; clear BK123; clear HB; have HO117 := n0_; have BK109 := n1_; have BK111 := n2_; have BK123 := n3_; have HB := n4_; have BK129 := n5_; have GW129 := n6_; have GE129 := n7_; have NB109_129 := n8_; have NB129_109 := n9_; have NB111_129 := n10_; have NB129_111 := n11_; have NB123_129 := n12_; have NB129_123 := n13_; clear n0_ n1_ n2_ n3_ n4_ n5_ n6_ n7_ n8_ n9_ n10_ n11_ n12_ n13_; clear hb hbox hg; have hnb33 := NB129_109.out; have hnc33 := NB109_129.out; have hnb34 := NB129_111.out; have hnc34 := NB111_129.out; have hnb35 := NB129_123.out; have hnc35 := NB123_129.out; have hcz36_0 : w32.cell? ⟨gb129, 0, none⟩ = some (.string (⟨#[]⟩ : ByteArray)) := (blk_cell BK129.out 0).trans rfl; have hcz36_1 : w32.cell? ⟨gb129, 1, none⟩ = some (.int .u64 0) := (blk_cell BK129.out 1).trans rfl; have hcz36_2 : w32.cell? ⟨gb129, 2, none⟩ = some (.int .u64 0) := (blk_cell BK129.out 2).trans rfl; have hcz36_3 : w32.cell? ⟨gb129, 3, none⟩ = some (.int .i64 0) := (blk_cell BK129.out 3).trans rfl; have hfz36_0 := blk_frozen BK129.out 0; have hfz36_1 := blk_frozen BK129.out 1; have hfz36_2 := blk_frozen BK129.out 2; have hfz36_3 := blk_frozen BK129.out 3))
   (try simp only [Act.put, List.setIfInBounds_toArray, List.set_cons_zero, List.set_cons_succ])
   go_cut [40] (fun v40 wc => ∃ (kq : Nat) (x40_10 : Bool), v40 = .bool x40_10 ∧ Aside0 (paymasterlaw17_VerifyUps.j0 kq x40_10 a1_0 a1_1 a1_2 a1_3 a1_4 a1_5 l1_6 a1_0 a1_1 a1_2 a1_3 a1_4 a1_5 y115 = some r) ∧ Aside0 (kq ≤ k) ∧ Aside0 (Kd.R kNode 26 wc w.heap.size (fun _ => True) (.slice Ao23 y115.length co23) y115) ∧ Aside0 (wc.heap[gb109]? = some (.cells #[.bool a1_0, .string a1_1, .string a1_2, .int .u64 a1_3, .int .u64 a1_4, .int .u64 a1_5, (.slice A1_6 l1_6.length c1_6)] 63 (0, 0))) ∧ Aside0 (wc.heap[gb111]? = some (.cells #[.bool a1_0, .string a1_1, .string a1_2, .int .u64 a1_3, .int .u64 a1_4, .int .u64 a1_5, (.slice Ao23 y115.length co23)] 63 (0, 0))) ∧ Aside0 (wc.heap[gb123]? = some (.cells #[.string t118, .int .u64 t119, .int .u64 t120, .int .i64 t121] 66 (0, 0))) ∧ Aside0 (wc.heap[gb129]? = some (.cells #[.string t124, .int .u64 t125, .int .u64 t126, .int .i64 t127] 66 (0, 0))) ∧ Aside0 (Below w.heap.size w wc))
   case first =>
    have H := HC11.out
    clear HC11
    by_cases c37 : (!(t118.toList == t124.toList) || ((!(t119 == t125) || (!(t120 == t126))) || (!(t121 == t127)))) = true
    ·
     rw [if_pos c37] at H
     have c37b0 : (!(t118.toList == t124.toList) || ((!(t119 == t125) || (!(t120 == t126))) || (!(t121 == t127)))) = true := c37
     clear c37
     (first | rw [c37b0] | (simp only [i64_w, i32_w]; rw [c37b0]) | skip)
     have H' := Aside0.mk H
     clear H
     have hnb38 := NB123_109.out
     have hnc38 := NB109_123.out
     have hnb39 := NB123_111.out
     have hnc39 := NB111_123.out
     have hnb40 := NB123_129.out
     have hnc40 := NB129_123.out
     have hcz41_0 : w32.cell? ⟨gb123, 0, none⟩ = some (.string t118) := (blk_cell BK123.out 0).trans rfl
     have hcz41_1 : w32.cell? ⟨gb123, 1, none⟩ = some (.int .u64 t119) := (blk_cell BK123.out 1).trans rfl
     have hcz41_2 : w32.cell? ⟨gb123, 2, none⟩ = some (.int .u64 t120) := (blk_cell BK123.out 2).trans rfl
     have hcz41_3 : w32.cell? ⟨gb123, 3, none⟩ = some (.int .i64 t121) := (blk_cell BK123.out 3).trans rfl
     have hfz41_0 := blk_frozen BK123.out 0
     have hfz41_1 := blk_frozen BK123.out 1
     have hfz41_2 := blk_frozen BK123.out 2
     have hfz41_3 := blk_frozen BK123.out 3
     have hnb42 := NB129_109.out
     have hnc42 := NB109_129.out
     have hnb43 := NB129_111.out
     have hnc43 := NB111_129.out
     have hcz44_0 : w32.cell? ⟨gb129, 0, none⟩ = some (.string (⟨#[]⟩ : ByteArray)) := (blk_cell BK129.out 0).trans rfl
     have hcz44_1 : w32.cell? ⟨gb129, 1, none⟩ = some (.int .u64 0) := (blk_cell BK129.out 1).trans rfl
     have hcz44_2 : w32.cell? ⟨gb129, 2, none⟩ = some (.int .u64 0) := (blk_cell BK129.out 2).trans rfl
     have hcz44_3 : w32.cell? ⟨gb129, 3, none⟩ = some (.int .i64 0) := (blk_cell BK129.out 3).trans rfl
     have hfz44_0 := blk_frozen BK129.out 0
     have hfz44_1 := blk_frozen BK129.out 1
     have hfz44_2 := blk_frozen BK129.out 2
     have hfz44_3 := blk_frozen BK129.out 3
     go_wp2
     go_meet
     case rel => exact ⟨_, (true), (by first | rfl | (simp; done) | (simp [*]; done)), H', ⟨by first | omega | exact Nat.le_refl _⟩, ⟨by (with_reducible repeat (first | apply Kd.R_alloc | apply Kd.R_drewN | apply Kd.R_drew)); exact Kd.R_mono (Kd.R_far (p := ⟨gb129, 3, none⟩) (Kd.R_far (p := ⟨gb129, 2, none⟩) (Kd.R_far (p := ⟨gb129, 1, none⟩) (Kd.R_far (p := ⟨gb129, 0, none⟩) (Kd.R_types HO117.out BK129.out (by decide)) (fun _ hk => hk.2) (.string t124)) (fun _ hk => hk.2) (.int .u64 t125)) (fun _ hk => hk.2) (.int .u64 t126)) (fun _ hk => hk.2) (.int .i64 t127)) (fun _ hk => trivial)⟩, ⟨by (with_reducible repeat (first | refine blk_drewN ?_ _ | refine blk_drew ?_ | refine blk_alloc ?_ _)); refine blk_far ?_ NB109_129.out _; (with_reducible repeat (first | refine blk_drewN ?_ _ | refine blk_drew ?_ | refine blk_alloc ?_ _)); refine blk_far ?_ NB109_129.out _; (with_reducible repeat (first | refine blk_drewN ?_ _ | refine blk_drew ?_ | refine blk_alloc ?_ _)); refine blk_far ?_ NB109_129.out _; (with_reducible repeat (first | refine blk_drewN ?_ _ | refine blk_drew ?_ | refine blk_alloc ?_ _)); refine blk_far ?_ NB109_129.out _; (with_reducible repeat (first | refine blk_drewN ?_ _ | refine blk_drew ?_ | refine blk_alloc ?_ _)); exact BK109.out⟩, ⟨by (with_reducible repeat (first | refine blk_drewN ?_ _ | refine blk_drew ?_ | refine blk_alloc ?_ _)); refine blk_far ?_ NB111_129.out _; (with_reducible repeat (first | refine blk_drewN ?_ _ | refine blk_drew ?_ | refine blk_alloc ?_ _)); refine blk_far ?_ NB111_129.out _; (with_reducible repeat (first | refine blk_drewN ?_ _ | refine blk_drew ?_ | refine blk_alloc ?_ _)); refine blk_far ?_ NB111_129.out _; (with_reducible repeat (first | refine blk_drewN ?_ _ | refine blk_drew ?_ | refine blk_alloc ?_ _)); refine blk_far ?_ NB111_129.out _; (with_reducible repeat (first | refine blk_drewN ?_ _ | refine blk_drew ?_ | refine blk_alloc ?_ _)); exact BK111.out⟩, ⟨by (with_reducible repeat (first | refine blk_drewN ?_ _ | refine blk_drew ?_ | refine blk_alloc ?_ _)); refine blk_far ?_ NB123_129.out _; (with_reducible repeat (first | refine blk_drewN ?_ _ | refine blk_drew ?_ | refine blk_alloc ?_ _)); refine blk_far ?_ NB123_129.out _; (with_reducible repeat (first | refine blk_drewN ?_ _ | refine blk_drew ?_ | refine blk_alloc ?_ _)); refine blk_far ?_ NB123_129.out _; (with_reducible repeat (first | refine blk_drewN ?_ _ | refine blk_drew ?_ | refine blk_alloc ?_ _)); refine blk_far ?_ NB123_129.out _; (with_reducible repeat (first | refine blk_drewN ?_ _ | refine blk_drew ?_ | refine blk_alloc ?_ _)); exact BK123.out⟩, ⟨by (with_reducible repeat (first | refine blk_drewN ?_ _ | refine blk_drew ?_ | refine blk_alloc ?_ _)); refine blk_put (cs := #[.string t124, .int .u64 t125, .int .u64 t126, .int .i64 0]) ?_ 3 _ rfl; (with_reducible repeat (first | refine blk_drewN ?_ _ | refine blk_drew ?_ | refine blk_alloc ?_ _)); refine blk_put (cs := #[.string t124, .int .u64 t125, .int .u64 0, .int .i64 0]) ?_ 2 _ rfl; (with_reducible repeat (first | refine blk_drewN ?_ _ | refine blk_drew ?_ | refine blk_alloc ?_ _)); refine blk_put (cs := #[.string t124, .int .u64 0, .int .u64 0, .int .i64 0]) ?_ 1 _ rfl; (with_reducible repeat (first | refine blk_drewN ?_ _ | refine blk_drew ?_ | refine blk_alloc ?_ _)); refine blk_put (cs := #[.string (⟨#[]⟩ : ByteArray), .int .u64 0, .int .u64 0, .int .i64 0]) ?_ 0 _ rfl; (with_reducible repeat (first | refine blk_drewN ?_ _ | refine blk_drew ?_ | refine blk_alloc ?_ _)); exact BK129.out⟩, ⟨by repeat (first | (with_reducible first | exact HB.out | apply below_alloc | apply pw_below_drewN | apply below_drew1 | refine below_set ?_ GE109.out | refine below_set ?_ GE111.out | refine below_set ?_ GE123.out | refine below_set ?_ GE129.out) | exact HB.out)⟩⟩
    ·
     rw [if_neg c37] at H
     have c37b0 : (!(t118.toList == t124.toList) || ((!(t119 == t125) || (!(t120 == t126))) || (!(t121 == t127)))) = false := by simpa using c37
     clear c37
     (first | rw [c37b0] | (simp only [i64_w, i32_w]; rw [c37b0]) | skip)
     have H' := Aside0.mk H
     clear H
     have hnb45 := NB123_109.out
     have hnc45 := NB109_123.out
     have hnb46 := NB123_111.out
     have hnc46 := NB111_123.out
     have hnb47 := NB123_129.out
     have hnc47 := NB129_123.out
     have hcz48_0 : w32.cell? ⟨gb123, 0, none⟩ = some (.string t118) := (blk_cell BK123.out 0).trans rfl
     have hcz48_1 : w32.cell? ⟨gb123, 1, none⟩ = some (.int .u64 t119) := (blk_cell BK123.out 1).trans rfl
     have hcz48_2 : w32.cell? ⟨gb123, 2, none⟩ = some (.int .u64 t120) := (blk_cell BK123.out 2).trans rfl
     have hcz48_3 : w32.cell? ⟨gb123, 3, none⟩ = some (.int .i64 t121) := (blk_cell BK123.out 3).trans rfl
     have hfz48_0 := blk_frozen BK123.out 0
     have hfz48_1 := blk_frozen BK123.out 1
     have hfz48_2 := blk_frozen BK123.out 2
     have hfz48_3 := blk_frozen BK123.out 3
     have hnb49 := NB129_109.out
     have hnc49 := NB109_129.out
     have hnb50 := NB129_111.out
     have hnc50 := NB111_129.out
     have hcz51_0 : w32.cell? ⟨gb129, 0, none⟩ = some (.string (⟨#[]⟩ : ByteArray)) := (blk_cell BK129.out 0).trans rfl
     have hcz51_1 : w32.cell? ⟨gb129, 1, none⟩ = some (.int .u64 0) := (blk_cell BK129.out 1).trans rfl
     have hcz51_2 : w32.cell? ⟨gb129, 2, none⟩ = some (.int .u64 0) := (blk_cell BK129.out 2).trans rfl
     have hcz51_3 : w32.cell? ⟨gb129, 3, none⟩ = some (.int .i64 0) := (blk_cell BK129.out 3).trans rfl
     have hfz51_0 := blk_frozen BK129.out 0
     have hfz51_1 := blk_frozen BK129.out 1
     have hfz51_2 := blk_frozen BK129.out 2
     have hfz51_3 := blk_frozen BK129.out 3
     go_wp2
     go_meet
     case rel => exact ⟨_, ((t122 != t128)), (by first | rfl | (simp; done) | (simp [*]; done)), H', ⟨by first | omega | exact Nat.le_refl _⟩, ⟨by (with_reducible repeat (first | apply Kd.R_alloc | apply Kd.R_drewN | apply Kd.R_drew)); exact Kd.R_mono (Kd.R_far (p := ⟨gb129, 3, none⟩) (Kd.R_far (p := ⟨gb129, 2, none⟩) (Kd.R_far (p := ⟨gb129, 1, none⟩) (Kd.R_far (p := ⟨gb129, 0, none⟩) (Kd.R_types HO117.out BK129.out (by decide)) (fun _ hk => hk.2) (.string t124)) (fun _ hk => hk.2) (.int .u64 t125)) (fun _ hk => hk.2) (.int .u64 t126)) (fun _ hk => hk.2) (.int .i64 t127)) (fun _ hk => trivial)⟩, ⟨by (with_reducible repeat (first | refine blk_drewN ?_ _ | refine blk_drew ?_ | refine blk_alloc ?_ _)); refine blk_far ?_ NB109_129.out _; (with_reducible repeat (first | refine blk_drewN ?_ _ | refine blk_drew ?_ | refine blk_alloc ?_ _)); refine blk_far ?_ NB109_129.out _; (with_reducible repeat (first | refine blk_drewN ?_ _ | refine blk_drew ?_ | refine blk_alloc ?_ _)); refine blk_far ?_ NB109_129.out _; (with_reducible repeat (first | refine blk_drewN ?_ _ | refine blk_drew ?_ | refine blk_alloc ?_ _)); refine blk_far ?_ NB109_129.out _; (with_reducible repeat (first | refine blk_drewN ?_ _ | refine blk_drew ?_ | refine blk_alloc ?_ _)); exact BK109.out⟩, ⟨by (with_reducible repeat (first | refine blk_drewN ?_ _ | refine blk_drew ?_ | refine blk_alloc ?_ _)); refine blk_far ?_ NB111_129.out _; (with_reducible repeat (first | refine blk_drewN ?_ _ | refine blk_drew ?_ | refine blk_alloc ?_ _)); refine blk_far ?_ NB111_129.out _; (with_reducible repeat (first | refine blk_drewN ?_ _ | refine blk_drew ?_ | refine blk_alloc ?_ _)); refine blk_far ?_ NB111_129.out _; (with_reducible repeat (first | refine blk_drewN ?_ _ | refine blk_drew ?_ | refine blk_alloc ?_ _)); refine blk_far ?_ NB111_129.out _; (with_reducible repeat (first | refine blk_drewN ?_ _ | refine blk_drew ?_ | refine blk_alloc ?_ _)); exact BK111.out⟩, ⟨by (with_reducible repeat (first | refine blk_drewN ?_ _ | refine blk_drew ?_ | refine blk_alloc ?_ _)); refine blk_far ?_ NB123_129.out _; (with_reducible repeat (first | refine blk_drewN ?_ _ | refine blk_drew ?_ | refine blk_alloc ?_ _)); refine blk_far ?_ NB123_129.out _; (with_reducible repeat (first | refine blk_drewN ?_ _ | refine blk_drew ?_ | refine blk_alloc ?_ _)); refine blk_far ?_ NB123_129.out _; (with_reducible repeat (first | refine blk_drewN ?_ _ | refine blk_drew ?_ | refine blk_alloc ?_ _)); refine blk_far ?_ NB123_129.out _; (with_reducible repeat (first | refine blk_drewN ?_ _ | refine blk_drew ?_ | refine blk_alloc ?_ _)); exact BK123.out⟩, ⟨by (with_reducible repeat (first | refine blk_drewN ?_ _ | refine blk_drew ?_ | refine blk_alloc ?_ _)); refine blk_put (cs := #[.string t124, .int .u64 t125, .int .u64 t126, .int .i64 0]) ?_ 3 _ rfl; (with_reducible repeat (first | refine blk_drewN ?_ _ | refine blk_drew ?_ | refine blk_alloc ?_ _)); refine blk_put (cs := #[.string t124, .int .u64 t125, .int .u64 0, .int .i64 0]) ?_ 2 _ rfl; (with_reducible repeat (first | refine blk_drewN ?_ _ | refine blk_drew ?_ | refine blk_alloc ?_ _)); refine blk_put (cs := #[.string t124, .int .u64 0, .int .u64 0, .int .i64 0]) ?_ 1 _ rfl; (with_reducible repeat (first | refine blk_drewN ?_ _ | refine blk_drew ?_ | refine blk_alloc ?_ _)); refine blk_put (cs := #[.string (⟨#[]⟩ : ByteArray), .int .u64 0, .int .u64 0, .int .i64 0]) ?_ 0 _ rfl; (with_reducible repeat (first | refine blk_drewN ?_ _ | refine blk_drew ?_ | refine blk_alloc ?_ _)); exact BK129.out⟩, ⟨by repeat (first | (with_reducible first | exact HB.out | apply below_alloc | apply pw_below_drewN | apply below_drew1 | refine below_set ?_ GE109.out | refine below_set ?_ GE111.out | refine below_set ?_ GE123.out | refine below_set ?_ GE129.out) | exact HB.out)⟩⟩
   case rest =>
    clear HC11
    try clear c1
    try clear c2
    try clear p2
    try clear c3
    try clear c4
    try clear c5
    try clear c8
    try clear c10
    try clear c17
    try clear c27
    try clear c28
    try clear c33
    try clear c34
    try clear c35
    try clear c37
    try clear c37b0
    try clear c38
    try clear c39
    try clear c40
    try clear c42
    try clear c43
    try clear c45
    try clear c46
    try clear c47
    try clear c49
    try clear c50
    try clear hcz13_0
    try clear hcz13_1
    try clear hcz13_2
    try clear hcz13_3
    try clear hcz13_4
    try clear hcz13_5
    try clear hcz13_6
    try clear hcz15_0
    try clear hcz15_1
    try clear hcz15_2
    try clear hcz15_3
    try clear hcz15_4
    try clear hcz15_5
    try clear hcz15_6
    try clear hcz18_0
    try clear hcz18_1
    try clear hcz18_2
    try clear hcz18_3
    try clear hcz18_4
    try clear hcz18_5
    try clear hcz18_6
    try clear hcz21_0
    try clear hcz21_1
    try clear hcz21_2
    try clear hcz21_3
    try clear hcz21_4
    try clear hcz21_5
    try clear hcz21_6
    try clear hcz24_0
    try clear hcz24_1
    try clear hcz24_2
    try clear hcz24_3
    try clear hcz24_4
    try clear hcz24_5
    try clear hcz24_6
    try clear hcz29_0
    try clear hcz29_1
    try clear hcz29_2
    try clear hcz29_3
    try clear hcz30_0
    try clear hcz30_1
    try clear hcz30_2
    try clear hcz30_3
    try clear hcz30_4
    try clear hcz30_5
    try clear hcz30_6
    try clear hcz36_0
    try clear hcz36_1
    try clear hcz36_2
    try clear hcz36_3
    try clear hcz41_0
    try clear hcz41_1
    try clear hcz41_2
    try clear hcz41_3
    try clear hcz44_0
    try clear hcz44_1
    try clear hcz44_2
    try clear hcz44_3
    try clear hcz48_0
    try clear hcz48_1
    try clear hcz48_2
    try clear hcz48_3
    try clear hcz51_0
    try clear hcz51_1
    try clear hcz51_2
    try clear hcz51_3
    try clear hcz6_0
    try clear hcz6_1
    try clear hcz6_2
    try clear hcz6_3
    try clear hcz6_4
    try clear hcz6_5
    try clear hcz6_6
    try clear hfz13_0
    try clear hfz13_1
    try clear hfz13_2
    try clear hfz13_3
    try clear hfz13_4
    try clear hfz13_5
    try clear hfz13_6
    try clear hfz15_0
    try clear hfz15_1
    try clear hfz15_2
    try clear hfz15_3
    try clear hfz15_4
    try clear hfz15_5
    try clear hfz15_6
    try clear hfz18_0
    try clear hfz18_1
    try clear hfz18_2
    try clear hfz18_3
    try clear hfz18_4
    try clear hfz18_5
    try clear hfz18_6
    try clear hfz21_0
    try clear hfz21_1
    try clear hfz21_2
    try clear hfz21_3
    try clear hfz21_4
    try clear hfz21_5
    try clear hfz21_6
    try clear hfz24_0
    try clear hfz24_1
    try clear hfz24_2
    try clear hfz24_3
    try clear hfz24_4
    try clear hfz24_5
    try clear hfz24_6
    try clear hfz29_0
    try clear hfz29_1
    try clear hfz29_2
    try clear hfz29_3
    try clear hfz30_0
    try clear hfz30_1
    try clear hfz30_2
    try clear hfz30_3
    try clear hfz30_4
    try clear hfz30_5
    try clear hfz30_6
    try clear hfz36_0
    try clear hfz36_1
    try clear hfz36_2
    try clear hfz36_3
    try clear hfz41_0
    try clear hfz41_1
    try clear hfz41_2
    try clear hfz41_3
    try clear hfz44_0
    try clear hfz44_1
    try clear hfz44_2
    try clear hfz44_3
    try clear hfz48_0
    try clear hfz48_1
    try clear hfz48_2
    try clear hfz48_3
    try clear hfz51_0
    try clear hfz51_1
    try clear hfz51_2
    try clear hfz51_3
    try clear hfz6_0
    try clear hfz6_1
    try clear hfz6_2
    try clear hfz6_3
    try clear hfz6_4
    try clear hfz6_5
    try clear hfz6_6
    obtain ⟨kq, x40_10, rfl, HA, HJ10, HO_112006, BK109, BK111, BK123, BK129, HB⟩ := hcut
    cases kq with
    | zero => exact absurd HA.out (by simp [paymasterlaw17_VerifyUps.j0])
    | succ kj10 =>
     have H := HA.out
     clear HA
     simp only [paymasterlaw17_VerifyUps.j0] at H
     by_cases c52 : x40_10 = true
     ·
      subst c52
      have H1 : (some false) = some r := by rw [if_pos rfl] at H; exact H
      clear H
      have H := H1
      clear H1
      obtain rfl := Option.some.inj H
      go_wp2
      go_ret
      exact ⟨by first | rfl | (simp [errW_none, errW_some] <;> rfl) | (simp [*, errW_none, errW_some] <;> rfl), by repeat (first | (with_reducible first | exact HB.out | apply below_alloc | apply pw_below_drewN | apply below_drew1 | refine below_set ?_ GE109.out | refine below_set ?_ GE111.out | refine below_set ?_ GE123.out | refine below_set ?_ GE129.out) | exact HB.out)⟩
     ·
      replace c52 := Bool.eq_false_iff.mpr c52
      subst c52
      have H1 : (paymasterlaw17_VerifyUps.l0 kj10 0 a1_0 a1_1 a1_2 a1_3 a1_4 a1_5 l1_6 a1_0 a1_1 a1_2 a1_3 a1_4 a1_5 y115) = some r := by rw [if_neg (show ¬ (false = true) by decide)] at H; exact H
      clear H
      have H := H1
      clear H1
      have H' := Aside0.mk H
      clear H
      go_wp2
      go_loopg [10] kj10 (fun kq v10 w' => ∃ (x10_2 : Int), v10 = .int .i64 x10_2 ∧ Aside0 (paymasterlaw17_VerifyUps.l0 kq x10_2 a1_0 a1_1 a1_2 a1_3 a1_4 a1_5 l1_6 a1_0 a1_1 a1_2 a1_3 a1_4 a1_5 y115 = some r) ∧ Aside0 (kq ≤ kj10) ∧ Aside0 (Kd.R kNode 26 w' w.heap.size (fun _ => True) (.slice Ao23 y115.length co23) y115) ∧ Aside0 (w'.heap[gb109]? = some (.cells #[.bool a1_0, .string a1_1, .string a1_2, .int .u64 a1_3, .int .u64 a1_4, .int .u64 a1_5, (.slice A1_6 l1_6.length c1_6)] 63 (0, 0))) ∧ Aside0 (w'.heap[gb111]? = some (.cells #[.bool a1_0, .string a1_1, .string a1_2, .int .u64 a1_3, .int .u64 a1_4, .int .u64 a1_5, (.slice Ao23 y115.length co23)] 63 (0, 0))) ∧ Aside0 (w'.heap[gb123]? = some (.cells #[.string t118, .int .u64 t119, .int .u64 t120, .int .i64 t121] 66 (0, 0))) ∧ Aside0 (w'.heap[gb129]? = some (.cells #[.string t124, .int .u64 t125, .int .u64 t126, .int .i64 t127] 66 (0, 0))) ∧ Aside0 (Below w.heap.size w w'))
      case atStart => exact ⟨(0), (by first | rfl | (simp; done) | (simp [*]; done)), H', ⟨Nat.le_refl _⟩, ⟨by (with_reducible repeat (first | apply Kd.R_alloc | apply Kd.R_drewN | apply Kd.R_drew)); exact HO_112006.out⟩, ⟨by (with_reducible repeat (first | refine blk_drewN ?_ _ | refine blk_drew ?_ | refine blk_alloc ?_ _)); exact BK109.out⟩, ⟨by (with_reducible repeat (first | refine blk_drewN ?_ _ | refine blk_drew ?_ | refine blk_alloc ?_ _)); exact BK111.out⟩, ⟨by (with_reducible repeat (first | refine blk_drewN ?_ _ | refine blk_drew ?_ | refine blk_alloc ?_ _)); exact BK123.out⟩, ⟨by (with_reducible repeat (first | refine blk_drewN ?_ _ | refine blk_drew ?_ | refine blk_alloc ?_ _)); exact BK129.out⟩, ⟨by repeat (first | (with_reducible first | exact HB.out | apply below_alloc | apply pw_below_drewN | apply below_drew1 | refine below_set ?_ GE109.out | refine below_set ?_ GE111.out | refine below_set ?_ GE123.out | refine below_set ?_ GE129.out) | exact HB.out)⟩⟩
      case round =>
       clear H'
       try clear c1
       try clear c2
       try clear p2
       try clear c3
       try clear c4
       try clear c5
       try clear c8
       try clear c10
       try clear c17
       try clear c27
       try clear c28
       try clear c33
       try clear c34
       try clear c35
       try clear c37
       try clear c37b0
       try clear c38
       try clear c39
       try clear c40
       try clear c42
       try clear c43
       try clear c45
       try clear c46
       try clear c47
       try clear c49
       try clear c50
       try clear c52
       try clear hcz13_0
       try clear hcz13_1
       try clear hcz13_2
       try clear hcz13_3
       try clear hcz13_4
       try clear hcz13_5
       try clear hcz13_6
       try clear hcz15_0
       try clear hcz15_1
       try clear hcz15_2
       try clear hcz15_3
       try clear hcz15_4
       try clear hcz15_5
       try clear hcz15_6
       try clear hcz18_0
       try clear hcz18_1
       try clear hcz18_2
       try clear hcz18_3
       try clear hcz18_4
       try clear hcz18_5
       try clear hcz18_6
       try clear hcz21_0
       try clear hcz21_1
       try clear hcz21_2
       try clear hcz21_3
       try clear hcz21_4
       try clear hcz21_5
       try clear hcz21_6
       try clear hcz24_0
       try clear hcz24_1
       try clear hcz24_2
       try clear hcz24_3
       try clear hcz24_4
       try clear hcz24_5
       try clear hcz24_6
       try clear hcz29_0
       try clear hcz29_1
       try clear hcz29_2
       try clear hcz29_3
       try clear hcz30_0
       try clear hcz30_1
       try clear hcz30_2
       try clear hcz30_3
       try clear hcz30_4
       try clear hcz30_5
       try clear hcz30_6
       try clear hcz36_0
       try clear hcz36_1
       try clear hcz36_2
       try clear hcz36_3
       try clear hcz41_0
       try clear hcz41_1
       try clear hcz41_2
       try clear hcz41_3
       try clear hcz44_0
       try clear hcz44_1
       try clear hcz44_2
       try clear hcz44_3
       try clear hcz48_0
       try clear hcz48_1
       try clear hcz48_2
       try clear hcz48_3
       try clear hcz51_0
       try clear hcz51_1
       try clear hcz51_2
       try clear hcz51_3
       try clear hcz6_0
       try clear hcz6_1
       try clear hcz6_2
       try clear hcz6_3
       try clear hcz6_4
       try clear hcz6_5
       try clear hcz6_6
       try clear hfz13_0
       try clear hfz13_1
       try clear hfz13_2
       try clear hfz13_3
       try clear hfz13_4
       try clear hfz13_5
       try clear hfz13_6
       try clear hfz15_0
       try clear hfz15_1
       try clear hfz15_2
       try clear hfz15_3
       try clear hfz15_4
       try clear hfz15_5
       try clear hfz15_6
       try clear hfz18_0
       try clear hfz18_1
       try clear hfz18_2
       try clear hfz18_3
       try clear hfz18_4
       try clear hfz18_5
       try clear hfz18_6
       try clear hfz21_0
       try clear hfz21_1
       try clear hfz21_2
       try clear hfz21_3
       try clear hfz21_4
       try clear hfz21_5
       try clear hfz21_6
       try clear hfz24_0
       try clear hfz24_1
       try clear hfz24_2
       try clear hfz24_3
       try clear hfz24_4
       try clear hfz24_5
       try clear hfz24_6
       try clear hfz29_0
       try clear hfz29_1
       try clear hfz29_2
       try clear hfz29_3
       try clear hfz30_0
       try clear hfz30_1
       try clear hfz30_2
       try clear hfz30_3
       try clear hfz30_4
       try clear hfz30_5
       try clear hfz30_6
       try clear hfz36_0
       try clear hfz36_1
       try clear hfz36_2
       try clear hfz36_3
       try clear hfz41_0
       try clear hfz41_1
       try clear hfz41_2
       try clear hfz41_3
       try clear hfz44_0
       try clear hfz44_1
       try clear hfz44_2
       try clear hfz44_3
       try clear hfz48_0
       try clear hfz48_1
       try clear hfz48_2
       try clear hfz48_3
       try clear hfz51_0
       try clear hfz51_1
       try clear hfz51_2
       try clear hfz51_3
       try clear hfz6_0
       try clear hfz6_1
       try clear hfz6_2
       try clear hfz6_3
       try clear hfz6_4
       try clear hfz6_5
       try clear hfz6_6
       try clear p2
       obtain ⟨x10_2, rfl, HA, HK2, HO_112006, BK109, BK111, BK123, BK129, HB⟩ := hrel
       cases gk with
       | zero => exact absurd HA.out (by simp [paymasterlaw17_VerifyUps.l0])
       | succ k2 =>
        have H := HA.out
        clear HA
        simp only [paymasterlaw17_VerifyUps.l0] at H
        by_cases c53 : x10_2 < (y115.length : Int)
        ·
         rw [if_pos c53] at H
         have c53b0 : decide (x10_2 < (y115.length : Int)) = true := decide_eq_true c53
         clear c53
         by_cases c54 : 0 ≤ x10_2
         ·
          rw [if_pos c54] at H
          have c54b0 : decide (0 ≤ x10_2) = true := decide_eq_true c54
          clear c54
          by_cases c55 : x10_2 < (l1_6.length : Int)
          ·
           rw [if_pos c55] at H
           have c55b0 : decide (x10_2 < (l1_6.length : Int)) = true := decide_eq_true c55
           clear c55
           by_cases c56 : (!((((rd_TNode y115 x10_2).f0).toList) == (((rd_TNode l1_6 x10_2).f0).toList)) || ((!(((rd_TNode y115 x10_2).f1.f0) == ((rd_TNode l1_6 x10_2).f1.f0)) || (!(((rd_TNode y115 x10_2).f1.f1) == ((rd_TNode l1_6 x10_2).f1.f1)))))) = true
           ·
            rw [if_pos c56] at H
            have c56b0 : (!((((rd_TNode y115 x10_2).f0).toList) == (((rd_TNode l1_6 x10_2).f0).toList)) || ((!(((rd_TNode y115 x10_2).f1.f0) == ((rd_TNode l1_6 x10_2).f1.f0)) || (!(((rd_TNode y115 x10_2).f1.f1) == ((rd_TNode l1_6 x10_2).f1.f1)))))) = true := c56
            clear c56
            obtain rfl := Option.some.inj H
            have hnb57 := NB111_109.out
            have hnc57 := NB109_111.out
            have hnb58 := NB111_123.out
            have hnc58 := NB123_111.out
            have hnb59 := NB111_129.out
            have hnc59 := NB129_111.out
            have hcz60_0 : wr.cell? ⟨gb111, 0, none⟩ = some (.bool a1_0) := (blk_cell BK111.out 0).trans rfl
            have hcz60_1 : wr.cell? ⟨gb111, 1, none⟩ = some (.string a1_1) := (blk_cell BK111.out 1).trans rfl
            have hcz60_2 : wr.cell? ⟨gb111, 2, none⟩ = some (.string a1_2) := (blk_cell BK111.out 2).trans rfl
            have hcz60_3 : wr.cell? ⟨gb111, 3, none⟩ = some (.int .u64 a1_3) := (blk_cell BK111.out 3).trans rfl
            have hcz60_4 : wr.cell? ⟨gb111, 4, none⟩ = some (.int .u64 a1_4) := (blk_cell BK111.out 4).trans rfl
            have hcz60_5 : wr.cell? ⟨gb111, 5, none⟩ = some (.int .u64 a1_5) := (blk_cell BK111.out 5).trans rfl
            have hcz60_6 : wr.cell? ⟨gb111, 6, none⟩ = some (.slice Ao23 y115.length co23) := (blk_cell BK111.out 6).trans rfl
            have hfz60_0 := blk_frozen BK111.out 0
            have hfz60_1 := blk_frozen BK111.out 1
            have hfz60_2 := blk_frozen BK111.out 2
            have hfz60_3 := blk_frozen BK111.out 3
            have hfz60_4 := blk_frozen BK111.out 4
            have hfz60_5 := blk_frozen BK111.out 5
            have hfz60_6 := blk_frozen BK111.out 6
            have p130 : 0 ≤ (x10_2 : Int) := of_decide_eq_true (by first | (with_reducible assumption) | assumption)
            have q130 : x10_2 < (y115.length : Int) := of_decide_eq_true (by first | (with_reducible assumption) | assumption)
            obtain ⟨ad130, e130, hx130_0, hx130_1, hx130_2⟩ := at_TNode (Kd.R_reads' HO_112006.out).2.2 x10_2 p130 q130
            cases e130
            replace p130 := eq_true p130
            replace q130 := eq_true q130
            have hnb61 := NB109_123.out
            have hnc61 := NB123_109.out
            have hnb62 := NB109_129.out
            have hnc62 := NB129_109.out
            have hcz63_0 : wr.cell? ⟨gb109, 0, none⟩ = some (.bool a1_0) := (blk_cell BK109.out 0).trans rfl
            have hcz63_1 : wr.cell? ⟨gb109, 1, none⟩ = some (.string a1_1) := (blk_cell BK109.out 1).trans rfl
            have hcz63_2 : wr.cell? ⟨gb109, 2, none⟩ = some (.string a1_2) := (blk_cell BK109.out 2).trans rfl
            have hcz63_3 : wr.cell? ⟨gb109, 3, none⟩ = some (.int .u64 a1_3) := (blk_cell BK109.out 3).trans rfl
            have hcz63_4 : wr.cell? ⟨gb109, 4, none⟩ = some (.int .u64 a1_4) := (blk_cell BK109.out 4).trans rfl
            have hcz63_5 : wr.cell? ⟨gb109, 5, none⟩ = some (.int .u64 a1_5) := (blk_cell BK109.out 5).trans rfl
            have hcz63_6 : wr.cell? ⟨gb109, 6, none⟩ = some (.slice A1_6 l1_6.length c1_6) := (blk_cell BK109.out 6).trans rfl
            have hfz63_0 := blk_frozen BK109.out 0
            have hfz63_1 := blk_frozen BK109.out 1
            have hfz63_2 := blk_frozen BK109.out 2
            have hfz63_3 := blk_frozen BK109.out 3
            have hfz63_4 := blk_frozen BK109.out 4
            have hfz63_5 := blk_frozen BK109.out 5
            have hfz63_6 := blk_frozen BK109.out 6
            have p131 : 0 ≤ (x10_2 : Int) := of_decide_eq_true (by first | (with_reducible assumption) | assumption)
            have q131 : x10_2 < (l1_6.length : Int) := of_decide_eq_true (by first | (with_reducible assumption) | assumption)
            obtain ⟨ad131, e131, hx131_0, hx131_1, hx131_2⟩ := at_TNode HR1_6.out x10_2 p131 q131
            cases e131
            replace hx131_0 := (HB.out.cell (World.block_lt_of_cell? w _ hx131_0)).trans hx131_0
            replace hx131_1 := (HB.out.cell (World.block_lt_of_cell? w _ hx131_1)).trans hx131_1
            replace hx131_2 := (HB.out.cell (World.block_lt_of_cell? w _ hx131_2)).trans hx131_2
            replace p131 := eq_true p131
            replace q131 := eq_true q131
            go_wp2; go_region; go_wp2
            go_ret
            exact ⟨by first | rfl | (simp [errW_none, errW_some] <;> rfl) | (simp [*, errW_none, errW_some] <;> rfl), by repeat (first | (with_reducible first | exact HB.out | apply below_alloc | apply pw_below_drewN | apply below_drew1 | refine below_set ?_ GE109.out | refine below_set ?_ GE111.out | refine below_set ?_ GE123.out | refine below_set ?_ GE129.out) | exact HB.out)⟩
           ·
            rw [if_neg c56] at H
            have c56b0 : (!((((rd_TNode y115 x10_2).f0).toList) == (((rd_TNode l1_6 x10_2).f0).toList)) || ((!(((rd_TNode y115 x10_2).f1.f0) == ((rd_TNode l1_6 x10_2).f1.f0)) || (!(((rd_TNode y115 x10_2).f1.f1) == ((rd_TNode l1_6 x10_2).f1.f1)))))) = false := by simpa using c56
            clear c56
            have H' := Aside0.mk H
            clear H
            have hnb64 := NB111_109.out
            have hnc64 := NB109_111.out
            have hnb65 := NB111_123.out
            have hnc65 := NB123_111.out
            have hnb66 := NB111_129.out
            have hnc66 := NB129_111.out
            have hcz67_0 : wr.cell? ⟨gb111, 0, none⟩ = some (.bool a1_0) := (blk_cell BK111.out 0).trans rfl
            have hcz67_1 : wr.cell? ⟨gb111, 1, none⟩ = some (.string a1_1) := (blk_cell BK111.out 1).trans rfl
            have hcz67_2 : wr.cell? ⟨gb111, 2, none⟩ = some (.string a1_2) := (blk_cell BK111.out 2).trans rfl
            have hcz67_3 : wr.cell? ⟨gb111, 3, none⟩ = some (.int .u64 a1_3) := (blk_cell BK111.out 3).trans rfl
            have hcz67_4 : wr.cell? ⟨gb111, 4, none⟩ = some (.int .u64 a1_4) := (blk_cell BK111.out 4).trans rfl
            have hcz67_5 : wr.cell? ⟨gb111, 5, none⟩ = some (.int .u64 a1_5) := (blk_cell BK111.out 5).trans rfl
            have hcz67_6 : wr.cell? ⟨gb111, 6, none⟩ = some (.slice Ao23 y115.length co23) := (blk_cell BK111.out 6).trans rfl
            have hfz67_0 := blk_frozen BK111.out 0
            have hfz67_1 := blk_frozen BK111.out 1
            have hfz67_2 := blk_frozen BK111.out 2
            have hfz67_3 := blk_frozen BK111.out 3
            have hfz67_4 := blk_frozen BK111.out 4
            have hfz67_5 := blk_frozen BK111.out 5
            have hfz67_6 := blk_frozen BK111.out 6
            have p130 : 0 ≤ (x10_2 : Int) := of_decide_eq_true (by first | (with_reducible assumption) | assumption)
            have q130 : x10_2 < (y115.length : Int) := of_decide_eq_true (by first | (with_reducible assumption) | assumption)
            obtain ⟨ad130, e130, hx130_0, hx130_1, hx130_2⟩ := at_TNode (Kd.R_reads' HO_112006.out).2.2 x10_2 p130 q130
            cases e130
            replace p130 := eq_true p130
            replace q130 := eq_true q130
            have hnb68 := NB109_123.out
            have hnc68 := NB123_109.out
            have hnb69 := NB109_129.out
            have hnc69 := NB129_109.out
            have hcz70_0 : wr.cell? ⟨gb109, 0, none⟩ = some (.bool a1_0) := (blk_cell BK109.out 0).trans rfl
            have hcz70_1 : wr.cell? ⟨gb109, 1, none⟩ = some (.string a1_1) := (blk_cell BK109.out 1).trans rfl
            have hcz70_2 : wr.cell? ⟨gb109, 2, none⟩ = some (.string a1_2) := (blk_cell BK109.out 2).trans rfl
            have hcz70_3 : wr.cell? ⟨gb109, 3, none⟩ = some (.int .u64 a1_3) := (blk_cell BK109.out 3).trans rfl
            have hcz70_4 : wr.cell? ⟨gb109, 4, none⟩ = some (.int .u64 a1_4) := (blk_cell BK109.out 4).trans rfl
            have hcz70_5 : wr.cell? ⟨gb109, 5, none⟩ = some (.int .u64 a1_5) := (blk_cell BK109.out 5).trans rfl
            have hcz70_6 : wr.cell? ⟨gb109, 6, none⟩ = some (.slice A1_6 l1_6.length c1_6) := (blk_cell BK109.out 6).trans rfl
            have hfz70_0 := blk_frozen BK109.out 0
            have hfz70_1 := blk_frozen BK109.out 1
            have hfz70_2 := blk_frozen BK109.out 2
            have hfz70_3 := blk_frozen BK109.out 3
            have hfz70_4 := blk_frozen BK109.out 4
            have hfz70_5 := blk_frozen BK109.out 5
            have hfz70_6 := blk_frozen BK109.out 6
            have p131 : 0 ≤ (x10_2 : Int) := of_decide_eq_true (by first | (with_reducible assumption) | assumption)
            have q131 : x10_2 < (l1_6.length : Int) := of_decide_eq_true (by first | (with_reducible assumption) | assumption)
            obtain ⟨ad131, e131, hx131_0, hx131_1, hx131_2⟩ := at_TNode HR1_6.out x10_2 p131 q131
            cases e131
            replace hx131_0 := (HB.out.cell (World.block_lt_of_cell? w _ hx131_0)).trans hx131_0
            replace hx131_1 := (HB.out.cell (World.block_lt_of_cell? w _ hx131_1)).trans hx131_1
            replace hx131_2 := (HB.out.cell (World.block_lt_of_cell? w _ hx131_2)).trans hx131_2
            replace p131 := eq_true p131
            replace q131 := eq_true q131
            go_wp2; go_region; go_wp2
            go_roundg k2
            case measure => have := HJ10.out; have := HK2.out; omega
            case rel => exact ⟨(wrap64 (x10_2 + 1)), (by first | rfl | (simp; done) | (simp [*]; done)), H', ⟨by have := HJ10.out; have := HK2.out; omega⟩, ⟨by (with_reducible repeat (first | apply Kd.R_alloc | apply Kd.R_drewN | apply Kd.R_drew)); exact HO_112006.out⟩, ⟨by (with_reducible repeat (first | refine blk_drewN ?_ _ | refine blk_drew ?_ | refine blk_alloc ?_ _)); exact BK109.out⟩, ⟨by (with_reducible repeat (first | refine blk_drewN ?_ _ | refine blk_drew ?_ | refine blk_alloc ?_ _)); exact BK111.out⟩, ⟨by (with_reducible repeat (first | refine blk_drewN ?_ _ | refine blk_drew ?_ | refine blk_alloc ?_ _)); exact BK123.out⟩, ⟨by (with_reducible repeat (first | refine blk_drewN ?_ _ | refine blk_drew ?_ | refine blk_alloc ?_ _)); exact BK129.out⟩, ⟨by repeat (first | (with_reducible first | exact HB.out | apply below_alloc | apply pw_below_drewN | apply below_drew1 | refine below_set ?_ GE109.out | refine below_set ?_ GE111.out | refine below_set ?_ GE123.out | refine below_set ?_ GE129.out) | exact HB.out)⟩⟩
          ·
           rw [if_neg c55] at H
           exact absurd H (by simp)
         ·
          rw [if_neg c54] at H
          exact absurd H (by simp)
        ·
         rw [if_neg c53] at H
         have c53b0 : decide (x10_2 < (y115.length : Int)) = false := decide_eq_false c53
         clear c53
         obtain rfl := Option.some.inj H
         have hnb71 := NB111_109.out
         have hnc71 := NB109_111.out
         have hnb72 := NB111_123.out
         have hnc72 := NB123_111.out
         have hnb73 := NB111_129.out
         have hnc73 := NB129_111.out
         have hcz74_0 : wr.cell? ⟨gb111, 0, none⟩ = some (.bool a1_0) := (blk_cell BK111.out 0).trans rfl
         have hcz74_1 : wr.cell? ⟨gb111, 1, none⟩ = some (.string a1_1) := (blk_cell BK111.out 1).trans rfl
         have hcz74_2 : wr.cell? ⟨gb111, 2, none⟩ = some (.string a1_2) := (blk_cell BK111.out 2).trans rfl
         have hcz74_3 : wr.cell? ⟨gb111, 3, none⟩ = some (.int .u64 a1_3) := (blk_cell BK111.out 3).trans rfl
         have hcz74_4 : wr.cell? ⟨gb111, 4, none⟩ = some (.int .u64 a1_4) := (blk_cell BK111.out 4).trans rfl
         have hcz74_5 : wr.cell? ⟨gb111, 5, none⟩ = some (.int .u64 a1_5) := (blk_cell BK111.out 5).trans rfl
         have hcz74_6 : wr.cell? ⟨gb111, 6, none⟩ = some (.slice Ao23 y115.length co23) := (blk_cell BK111.out 6).trans rfl
         have hfz74_0 := blk_frozen BK111.out 0
         have hfz74_1 := blk_frozen BK111.out 1
         have hfz74_2 := blk_frozen BK111.out 2
         have hfz74_3 := blk_frozen BK111.out 3
         have hfz74_4 := blk_frozen BK111.out 4
         have hfz74_5 := blk_frozen BK111.out 5
         have hfz74_6 := blk_frozen BK111.out 6
         go_wp2
         go_ret
         exact ⟨by first | rfl | (simp [errW_none, errW_some] <;> rfl) | (simp [*, errW_none, errW_some] <;> rfl), by repeat (first | (with_reducible first | exact HB.out | apply below_alloc | apply pw_below_drewN | apply below_drew1 | refine below_set ?_ GE109.out | refine below_set ?_ GE111.out | refine below_set ?_ GE123.out | refine below_set ?_ GE129.out) | exact HB.out)⟩
  ·
   rw [if_neg c8] at H
   exact absurd H (by simp)
end Go.Proofs.YtlmmpncdemblbaaDoor.P
namespace Go.Proofs.YtlmmpncdemblbaaDoor.P
open Go.RowKit Go.Proofs.YtlmmpncdemblbaaDoorW.PrintWords Go.Proofs.YtlmmpncdemblbaaDoorW.PrintLast Go.Proofs.YtlmmpncdemblbaaDoorW.PrintMore
set_option linter.unusedVariables false
set_option linter.unusedSimpArgs false
set_option linter.unnecessarySimpa false
/-! When two rows of nodes, two entries, are the same. -/
def eqN (a b : SNode) : Bool := a.f0.toList == b.f0.toList && (a.f1.f0 == b.f1.f0 && a.f1.f1 == b.f1.f1)
theorem eqN_refl (a : SNode) : eqN a a = true := by simp [eqN]
theorem eqN_not (a b : SNode) : (!(a.f0.toList == b.f0.toList) || ((!(a.f1.f0 == b.f1.f0) || (!(a.f1.f1 == b.f1.f1))))) = !eqN a b := by
 unfold eqN
 cases (a.f0.toList == b.f0.toList) <;> cases (a.f1.f0 == b.f1.f0) <;> cases (a.f1.f1 == b.f1.f1) <;> rfl
end Go.Proofs.YtlmmpncdemblbaaDoor.P
namespace Go.Proofs.YtlmmpncdemblbaaDoor.P
open Go.RowKit Go.Proofs.YtlmmpncdemblbaaDoorW.PrintWords Go.Proofs.YtlmmpncdemblbaaDoorW.PrintLast Go.Proofs.YtlmmpncdemblbaaDoorW.PrintMore
set_option linter.unusedVariables false
set_option linter.unusedSimpArgs false
set_option linter.unnecessarySimpa false
theorem longE_false {e : SEntry} (h : longE e = false) : e.f1.f1.length ≤ 100 ∧ e.f0.f1.size ≤ 200 ∧ e.f0.f2.size ≤ 200 := by
 unfold longE greatL at h
 simp only [Bool.or_eq_false_iff, decide_eq_false_iff_not, List.any_cons, List.any_nil, Bool.or_false] at h
 omega
theorem wfE_okE {e : SEntry} (h : wfEntry e) (hl : longE e = false) : OkE e := by
 obtain ⟨h1, h2, h3⟩ := longE_false hl
 exact ⟨by omega, by omega, ⟨wf_u64 h.1.2.2.2.1, wf_u64 h.1.2.2.2.2⟩, wf_u64 h.2.1, fun x hx => ⟨wf_u64 (h.2.2.2 x hx).2.1, wf_u64 (h.2.2.2 x hx).2.2⟩, by omega⟩
theorem verifyUp_eq (w : Int) (e : SEntry) (h : OkE e) : verify_Up.f w e.f0.f0 e.f0.f1 e.f0.f2 e.f0.f3.f0 e.f0.f3.f1 e.f1.f0 e.f1.f1 = some (upI w e) := by
 unfold verify_Up.f
 rw [if_pos ⟨⟨h.id, h.sa, h.ls⟩, ⟨h.ub.h0, h.ub.h1, h.p⟩, fun x hx => ⟨(h.us x hx).h0, (h.us x hx).h1⟩⟩]
theorem refUp_eq (w : Int) (e : SEntry) (h : OkE e) : paymasterref17_Up.f w e.f0.f0 e.f0.f1 e.f0.f2 e.f0.f3.f0 e.f0.f3.f1 e.f1.f0 e.f1.f1 = some (upI w e) := by
 unfold paymasterref17_Up.f
 rw [if_pos ⟨⟨h.id, h.sa, h.ls⟩, ⟨h.ub.h0, h.ub.h1, h.p⟩, fun x hx => ⟨(h.us x hx).h0, (h.us x hx).h1⟩⟩]
theorem ups_loop (l : List SNode) (hl : l.length ≤ 100) (b b' : Bool) (x1 x2 x1' x2' : ByteArray) (y1 y2 y3 y1' y2' y3' : Int) : ∀ d i : Nat, i + d = l.length → Ev (fun k => paymasterlaw17_VerifyUps.l0 k (i : Int) b x1 x2 y1 y2 y3 l b' x1' x2' y1' y2' y3' l) true := by
 intro d
 induction d with
 | zero =>
  intro i hi
  refine Ev.step (f := fun _ => some true) (fun k => ?_) (Ev.now true)
  simp only [paymasterlaw17_VerifyUps.l0]; rw [if_neg (by omega)]
 | succ d ih =>
  intro i hi
  have hlt : i < l.length := by omega
  refine Ev.step (f := fun k => paymasterlaw17_VerifyUps.l0 k ((i + 1 : Nat) : Int) b x1 x2 y1 y2 y3 l b' x1' x2' y1' y2' y3' l) (fun k => ?_) (ih (i + 1) (by omega))
  simp only [paymasterlaw17_VerifyUps.l0]
  rw [if_pos (by omega), if_pos (by omega), if_pos (by omega), rdNode_nat l i hlt, eqN_not, eqN_refl, if_neg (by simp), wrap64_id (by omega) (by omega)]; rfl
theorem pure_VerifyUps : ∀ (y0 : Int) (y1 : SEntry), (Lit.int .i64 y0).wf = true → wfEntry y1 → ∃ k, paymasterlaw17_VerifyUps.f k y0 y1.f0.f0 y1.f0.f1 y1.f0.f2 y1.f0.f3.f0 y1.f0.f3.f1 y1.f1.f0 y1.f1.f1 = some true := by
 intro wd e _ he
 have hl : e.f1.f1.length ≤ 9223372036854775807 := by have := he.2.2.1; omega
 refine Ev.rounds ?_
 unfold paymasterlaw17_VerifyUps.f
 refine Ev.bind (longE_ev e hl) ?_
 cases hL : longE e with
 | true => exact Ev.some_ (fun k => by rw [if_pos rfl])
 | false =>
  have hok := wfE_okE he hL
  obtain ⟨h100, _, _⟩ := longE_false hL
  refine Ev.congr (f := fun k => paymasterlaw17_VerifyUps.j0 k false e.f0.f0 e.f0.f1 e.f0.f2 e.f0.f3.f0 e.f0.f3.f1 e.f1.f0 e.f1.f1 e.f0.f0 e.f0.f1 e.f0.f2 e.f0.f3.f0 e.f0.f3.f1 e.f1.f0 e.f1.f1) (fun k => ?_) ?_
  ·
   rw [if_neg (by decide)]
   simp only [Option.bind_some, List.nil_append, List.length_nil]
   rw [if_pos (by omega), verifyUp_eq wd e hok, refUp_eq wd e hok]
   simp
  ·
   refine Ev.step (f := fun k => paymasterlaw17_VerifyUps.l0 k ((0 : Nat) : Int) e.f0.f0 e.f0.f1 e.f0.f2 e.f0.f3.f0 e.f0.f3.f1 e.f1.f0 e.f1.f1 e.f0.f0 e.f0.f1 e.f0.f2 e.f0.f3.f0 e.f0.f3.f1 e.f1.f0 e.f1.f1) (fun k => ?_) (ups_loop _ h100 _ _ _ _ _ _ _ _ _ _ _ _ e.f1.f1.length 0 (by omega))
   simp only [paymasterlaw17_VerifyUps.j0]; rw [if_neg (by decide)]; rfl
end Go.Proofs.YtlmmpncdemblbaaDoor.P
namespace Go.Proofs.YtlmmpncdemblbaaDoor.verifyUps
open Go.Proofs.YtlmmpncdemblbaaDoor.P Go.ChangeShapes Go.WideShapes Go.ChangeAt Go.RowKit
open Go.ChangeMaps (open_string shut_string)
open Go.Proofs.YtlmmpncdemblbaaDoorW.PrintWords Go.Proofs.YtlmmpncdemblbaaDoorW.PrintLast Go.Proofs.YtlmmpncdemblbaaDoorW.PrintMore
set_option linter.unusedVariables false
set_option linter.unusedSimpArgs false
theorem own : ownKnob Tryd.prog.godebug = none := by kernel_rfl
theorem laidOut : laidOutB Tryd.prog = true := by kernel_rfl
set_option maxRecDepth 100000 in
theorem lifted (os : Os) (started : os.Started) (H : Type) (enc : TypeId × Value → H) :
    ReturnsInHanded {} Tryd.checked os 10 .any (fun w args => (Rows.verifyUpsSpec.pre enc Tryd.prog Tryd.f10 [] false w args ∧ laidMetH Tryd.prog Rows.verifyUpsRow.laid w) ∧ sizedMet enc Tryd.prog Tryd.f10 (OpenSpec.ofChange Rows.verifyUpsSpec) false w args)
      (Rows.verifyUpsSpec.post enc Tryd.prog Tryd.f10 false true false false) := by
  refine returnsInHanded_of_change_and (C := Tryd.checked) (X := fun w _ => laidMetH Tryd.prog Rows.verifyUpsRow.laid w) (fun _ _ _ hh h => h.of_heap hh) own started (by kernel_rfl) Tryd.func10
    (ChangeSpec.witness_at (enc := enc) (C := Tryd.checked) (os := os) (X := fun w _ => laidMetH Tryd.prog Rows.verifyUpsRow.laid w) false (P.laidWorldT os) #[.int .i64 0, .agg #[.bool false, .string ByteArray.empty, .string ByteArray.empty, .int .u64 0, .int .u64 0, .int .u64 0, .slice none 0 0]] 8 rfl (by kernel_rfl) (by kernel_rfl) (by kernel_rfl) (by kernel_rfl) (by kernel_rfl) (P.laidWorldT_met os _)) ?_
  intro W base args ds gs before hval0 hW _ hsz0 hL _
  have hval : ∀ (j : Nat) t v, Tryd.f10.params[j]? = some t → args[j]? = some v → Value.okWide Tryd.prog W .any base t v := hval0
  have hW' := hW
  obtain ⟨p, q, hA0, hV, rfl, hfz, hnd⟩ := hW
  have hA : DataW.TrodAll enc Tryd.prog W 0 (fun _ => true) true Tryd.f10.params.toList args.toList ds p := hA0
  rw [Tryd.params10] at hA hval
  obtain ⟨v0, vs0, d0, ds0, p0, q0, hargs, rfl, rfl, h0, r0⟩ := trodAll_cons hA
  obtain ⟨v1, vs1, d1, ds1, p1, q1, rfl, rfl, rfl, h1, r1⟩ := trodAll_cons r0
  obtain ⟨rfl, rfl, rfl⟩ := trodAll_nil r1
  obtain rfl : args = #[v0, v1] := by cases args; simp_all
  obtain ⟨rfl, rfl⟩ := trodVars_none hV
  have hz0 : Sized Tryd.prog 3 d0 := Sized.each hsz0 (j := 0) rfl rfl
  have hz1 : Sized Tryd.prog 63 d1 := Sized.each hsz0 (j := 1) rfl rfl
  have k0 := h0
  have lt0 : ∀ x ∈ p0, x.block < W.heap.size := by obtain ⟨m, hm⟩ := k0; exact DataW.trod_lt m _ _ _ hm
  obtain ⟨y0, rfl, rfl, rfl, w0⟩ := open_int Tryd.underlying3 (hval 0 3 v0 rfl rfl) h0
  have k1 := h1
  have lt1 : ∀ x ∈ p1, x.block < W.heap.size := by obtain ⟨m, hm⟩ := k1; exact DataW.trod_lt m _ _ _ hm
  obtain ⟨y1, cs1, rfl, hk1, w1⟩ := rdEntry.agg Tryd.underlying63 (hval 1 63 v1 rfl rfl) h1 hz1
  obtain ⟨cl1, rfl⟩ : ∃ l : List Value, cs1 = l.toArray := ⟨cs1.toList, by simp⟩
  simp only [List.toList_toArray] at hk1
  obtain ⟨A1_6, c1_6, rfl, l1_6, g1_6⟩ := kEntry_open hk1
  clear hA0 hval0 hsz0
  obtain ⟨k, h⟩ := pure_VerifyUps y0 y1 w0 w1
  refine (paymasterlaw17_VerifyUps.calls k y0 y1.f0.f0 y1.f0.f1 y1.f0.f2 y1.f0.f3.f0 y1.f0.f3.f1 y1.f1.f0 _ _ y1.f1.f1 true W (P.laidT_of_met hL) g1_6 l1_6 h).mono fun e W' ⟨he, bel0⟩ => ?_
  have bel := bel0
  subst he
  exact ⟨_, rfl, _, _, _, [], _, [], hW', trodAll_mk1 (shut_bool Tryd.underlying4 _), (trodAll_cons_mk (Below.trod laidOut (by kernel_rfl) (of_decide_eq_true (by kernel_rfl)) k0 bel lt0) (trodAll_cons_mk (Below.trod laidOut (by kernel_rfl) (of_decide_eq_true (by kernel_rfl)) k1 bel lt1) trodAll_mk0)), rfl, bel.frame _, fun h => by cases h⟩
theorem over : Rows.verifyUpsRow.holds Tryd.pinned (OpenSpec.ofChange Rows.verifyUpsSpec) :=
  OpenClaim.holds_of_wide 10 Tryd.f10 rfl rfl rfl rfl rfl rfl rfl ⟨rfl, rfl, rfl, rfl, rfl⟩ rfl rfl rfl rfl rfl (by kernel_rfl) Tryd.func10 (by kernel_rfl)
    (of_decide_eq_true (by kernel_rfl)) (by unfold Func.isWrapper; first | (rw [if_pos (by decide +kernel)]; kernel_rfl) | (rw [if_neg (by decide +kernel)]; exact ⟨rfl, rfl⟩))
    (fun os started H enc _ => lifted os started H enc)
set_option maxRecDepth 100000 in
theorem proved : Rows.VerifyUpsCardSaid :=
  Claim7.holds_tied_plain_at .later [] [.data, .data, .pinned] true (true, "0d271f63775fa93c7fbc120e8a201296a9c53b9baf3890b1618e34c65d58a738") true
    over (fun _ h => by cases h) (by kernel_rfl) (fun _ h => by cases h) verifyUps_row_tie rfl ⟨rfl, rfl⟩ (by kernel_rfl) rfl
    (fun f fn hf hfn => by
      obtain rfl : f = 10 := Option.some.inj ((show Tryd.prog.funcNamed "paymaster/paymasterlaw17.VerifyUps" = some 10 by kernel_rfl).symm.trans hf) |>.symm
      obtain rfl : fn = Tryd.f10 := (Option.some.inj (Tryd.func10.symm.trans hfn)).symm
      exact ⟨by kernel_rfl, fun j t ht => by
        rw [Tryd.params10] at ht
        have h3 : t ∈ [3, 63] := by
          have := List.mem_of_getElem? (l := [3, 63]) (i := j) (a := t) (by simpa using ht)
          exact this
        simp only [List.mem_cons, List.not_mem_nil, or_false] at h3
        rcases h3 with rfl | rfl
        · exact (show Tryd.prog.wantsStandIn 3 = false by kernel_rfl)
        · exact (show Tryd.prog.wantsStandIn 63 = false by kernel_rfl)
      ⟩)
    (by kernel_rfl)
#print axioms proved
end Go.Proofs.YtlmmpncdemblbaaDoor.verifyUps
namespace Go.Proofs.YtlmmpncdemblbaaDoor
/-- The row, under a short name, for the claim. -/
theorem verifyUps_holds : Rows.VerifyUpsCardSaid := verifyUps.proved
end Go.Proofs.YtlmmpncdemblbaaDoor
