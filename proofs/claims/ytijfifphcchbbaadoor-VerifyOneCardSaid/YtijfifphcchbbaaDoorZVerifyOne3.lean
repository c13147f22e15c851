/- PROVED HERE: the Go function paymasterlaw17.VerifyOne returns true for every input that the given statement speaks of, and each argument reads behind the call as it read before. Conditions: none beyond the given statement's own (the laid table of constants, tied by the card). -/
-- Several texts of this workplace as one.
import Derived.Test.YtijfifphcchbbaaDoorZVerifyOne2
import Derived.Test.YtijfifphcchbbaaDoorProg
import Derived.Deep.OwnRows
import Derived.Laws.Rows
import Derived.Test.YtijfifphcchbbaaDoorRows
import Derived.Test.YtijfifphcchbbaaDoorCards
import Derived.Test.YtijfifphcchbbaaDoorTie
namespace Go.Proofs.YtijfifphcchbbaaDoor.P
open Go.RowKit Go.Proofs.YtijfifphcchbbaaDoorW.PrintWords Go.Proofs.YtijfifphcchbbaaDoorW.PrintLast Go.Proofs.YtijfifphcchbbaaDoorW.PrintMore
attribute [local go_sem] max2_int min2_int max_two min_two max_three min_three max_four min_four-- for this text's walks alone
set_option linter.unusedVariables false
set_option linter.unusedSimpArgs false
attribute [local go_sem high] eqARoot
mutual
def paymasterlaw17_VerifyOne.j0 : Nat → Int → Bool → Bool → ByteArray → ByteArray → Int → Int → Int → List (SNode) → ByteArray → Int → Int → Int → Option (Bool)
 | 0, _, _, _, _, _, _, _, _, _, _, _, _, _ => none
 | k + 1, x0, x21, x102000, x102001, x102002, x102003, x102004, x102005, x102006, x103000, x103001, x103002, x103003 => if x21 = true then (some true) else ((verify_Up.f x0 x102000 x102001 x102002 x102003 x102004 x102005 x102006).bind fun bt105 => (if bt105.2.2.2.2 = 0 then ((verify_Check.f bt105.1 bt105.2.1 bt105.2.2.1 bt105.2.2.2.1 x102000 x102001 x102002 x102003 x102004 x102005 x102006).bind fun t111 => (if t111 = 0 then ((verify_May.f k bt105.1 bt105.2.1 bt105.2.2.1 bt105.2.2.2.1).bind fun t112 => (if t112 = 0 then (if (bt105.1.size : Int) = x0 then (paymasterlaw17_VerifyOne.j1 k bt105.2.2.2.2 (bt105.2.2.2.1 != (x102006.length : Int)) x102000 x102001 x102002 x102003 x102004 x102005 x102006 x103000 x103001 x103002 x103003 bt105.1 bt105.2.1 bt105.2.2.1 bt105.2.2.2.1) else (paymasterlaw17_VerifyOne.j1 k bt105.2.2.2.2 true x102000 x102001 x102002 x102003 x102004 x102005 x102006 x103000 x103001 x103002 x103003 bt105.1 bt105.2.1 bt105.2.2.1 bt105.2.2.2.1)) else (paymasterlaw17_VerifyOne.j1 k bt105.2.2.2.2 true x102000 x102001 x102002 x102003 x102004 x102005 x102006 x103000 x103001 x103002 x103003 bt105.1 bt105.2.1 bt105.2.2.1 bt105.2.2.2.1))) else (paymasterlaw17_VerifyOne.j1 k bt105.2.2.2.2 true x102000 x102001 x102002 x102003 x102004 x102005 x102006 x103000 x103001 x103002 x103003 bt105.1 bt105.2.1 bt105.2.2.1 bt105.2.2.2.1))) else (paymasterlaw17_VerifyOne.j1 k bt105.2.2.2.2 false x102000 x102001 x102002 x102003 x102004 x102005 x102006 x103000 x103001 x103002 x103003 bt105.1 bt105.2.1 bt105.2.2.1 bt105.2.2.2.1)))
def paymasterlaw17_VerifyOne.j1 : Nat → Int → Bool → Bool → ByteArray → ByteArray → Int → Int → Int → List (SNode) → ByteArray → Int → Int → Int → ByteArray → Int → Int → Int → Option (Bool)
 | 0, _, _, _, _, _, _, _, _, _, _, _, _, _, _, _, _, _ => none
 | k + 1, x8, x56, x102000, x102001, x102002, x102003, x102004, x102005, x102006, x103000, x103001, x103002, x103003, x111000, x111001, x111002, x111003 => if x56 = true then (some false) else (if x8 = 0 then (paymasterlaw17_VerifyOne.j2 k false x102000 x102001 x102002 x102003 x102004 x102005 x102006 x103000 x103001 x103002 x103003) else (paymasterlaw17_VerifyOne.j2 k (!(x111000.toList == ([] : List UInt8)) || ((!(x111001 == 0) || (!(x111002 == 0))) || (!(x111003 == 0)))) x102000 x102001 x102002 x102003 x102004 x102005 x102006 x103000 x103001 x103002 x103003))
def paymasterlaw17_VerifyOne.j2 : Nat → Bool → Bool → ByteArray → ByteArray → Int → Int → Int → List (SNode) → ByteArray → Int → Int → Int → Option (Bool)
 | 0, _, _, _, _, _, _, _, _, _, _, _, _ => none
 | k + 1, x63, x102000, x102001, x102002, x102003, x102004, x102005, x102006, x103000, x103001, x103002, x103003 => if x63 = true then (some false) else ((verify_Check.f x103000 x103001 x103002 x103003 x102000 x102001 x102002 x102003 x102004 x102005 x102006).bind fun t113 => ((verify_Up.f (x103000.size : Int) x102000 x102001 x102002 x102003 x102004 x102005 x102006).bind fun bt114 => (if bt114.2.2.2.2 = 0 then (if (bt114.1.toList == x103000.toList && ((bt114.2.1 == x103001 && (bt114.2.2.1 == x103002)) && (bt114.2.2.2.1 == x103003))) = true then (some ((t113 == 0) == (x103003 == (x102006.length : Int)))) else (some ((t113 == 0) == false))) else (some ((t113 == 0) == false)))))
end
def paymasterlaw17_VerifyOne.f (k : Nat) (a0 : Int) (a1_0 : Bool) (a1_1 : ByteArray) (a1_2 : ByteArray) (a1_3 : Int) (a1_4 : Int) (a1_5 : Int) (l1_6 : List (SNode)) (a2_0 : ByteArray) (a2_1 : Int) (a2_2 : Int) (a2_3 : Int) : Option (Bool) := (paymasterlaw17_awake.f).bind fun t103 => (if t103 = true then ((paymasterlaw16_LongEntry.f k a1_0 a1_1 a1_2 a1_3 a1_4 a1_5 l1_6).bind fun t104 => (if t104 = true then (paymasterlaw17_VerifyOne.j0 k a0 true a1_0 a1_1 a1_2 a1_3 a1_4 a1_5 l1_6 a2_0 a2_1 a2_2 a2_3) else (paymasterlaw17_VerifyOne.j0 k a0 (decide ((a2_0.size : Int) > 60)) a1_0 a1_1 a1_2 a1_3 a1_4 a1_5 l1_6 a2_0 a2_1 a2_2 a2_3))) else (some false))
set_option maxHeartbeats 8000000 in
set_option maxRecDepth 100000 in
theorem paymasterlaw17_VerifyOne.calls (k : Nat) (a0 : Int) (a1_0 : Bool) (a1_1 : ByteArray) (a1_2 : ByteArray) (a1_3 : Int) (a1_4 : Int) (a1_5 : Int) (A1_6 : Option Addr) (c1_6 : Nat) (l1_6 : List (SNode)) (a2_0 : ByteArray) (a2_1 : Int) (a2_2 : Int) (a2_3 : Int) (r : Bool) (w : World) (hK : LaidT w) (hr1_6 : Kd.C kNode w A1_6 l1_6.length l1_6) (hc1_6 : l1_6.length ≤ c1_6) (h : paymasterlaw17_VerifyOne.f k a0 a1_0 a1_1 a1_2 a1_3 a1_4 a1_5 l1_6 a2_0 a2_1 a2_2 a2_3 = some r) :
  Calls Tryd.prog 9 #[.int .i64 a0, .agg #[.bool a1_0, .string a1_1, .string a1_2, .int .u64 a1_3, .int .u64 a1_4, .int .u64 a1_5, .slice A1_6 l1_6.length c1_6], .agg #[.string a2_0, .int .u64 a2_1, .int .u64 a2_2, .int .i64 a2_3]] w fun e w' => e = .returned (.bool r) ∧ Below w.heap.size w w' := by
 have hu61 := Tryd.underlying61
 have hu63 := Tryd.underlying63
 have HR1_6 := aM' hr1_6
 have HC1_6 := aM' hc1_6
 clear hr1_6 hc1_6
 have HB := aM' (Below.refl w.heap.size w)
 have HLD := aM' hK
 clear hK
 have H : ((paymasterlaw17_awake.f).bind fun t103 => (if t103 = true then ((paymasterlaw16_LongEntry.f k a1_0 a1_1 a1_2 a1_3 a1_4 a1_5 l1_6).bind fun t104 => (if t104 = true then (paymasterlaw17_VerifyOne.j0 k a0 true a1_0 a1_1 a1_2 a1_3 a1_4 a1_5 l1_6 a2_0 a2_1 a2_2 a2_3) else (paymasterlaw17_VerifyOne.j0 k a0 (decide ((a2_0.size : Int) > 60)) a1_0 a1_1 a1_2 a1_3 a1_4 a1_5 l1_6 a2_0 a2_1 a2_2 a2_3))) else (some false))) = some r := h
 clear h
 replace H := Option.bind_eq_some_iff.mp H
 obtain ⟨t103, A40, H⟩ := H
 replace H : (if t103 = true then ((paymasterlaw16_LongEntry.f k a1_0 a1_1 a1_2 a1_3 a1_4 a1_5 l1_6).bind fun t104 => (if t104 = true then (paymasterlaw17_VerifyOne.j0 k a0 true a1_0 a1_1 a1_2 a1_3 a1_4 a1_5 l1_6 a2_0 a2_1 a2_2 a2_3) else (paymasterlaw17_VerifyOne.j0 k a0 (decide ((a2_0.size : Int) > 60)) a1_0 a1_1 a1_2 a1_3 a1_4 a1_5 l1_6 a2_0 a2_1 a2_2 a2_3))) else (some false)) = some r := H
 have A4 := aM' A40
 clear A40
 by_cases c5 : t103 = true
 ·
  subst c5
  have H1 : ((paymasterlaw16_LongEntry.f k a1_0 a1_1 a1_2 a1_3 a1_4 a1_5 l1_6).bind fun t104 => (if t104 = true then (paymasterlaw17_VerifyOne.j0 k a0 true a1_0 a1_1 a1_2 a1_3 a1_4 a1_5 l1_6 a2_0 a2_1 a2_2 a2_3) else (paymasterlaw17_VerifyOne.j0 k a0 (decide ((a2_0.size : Int) > 60)) a1_0 a1_1 a1_2 a1_3 a1_4 a1_5 l1_6 a2_0 a2_1 a2_2 a2_3))) = some r := by rw [if_pos rfl] at H; exact H
  clear H
  have H := H1
  clear H1
  have HC6 := aM' H
  clear H
  go_enter Tryd.func9, Tryd.ntmps9
  go_upto_region 3 with (first | ((with_reducible refine gate_dst (N := 4) rfl ?_); (try (refine gate_guard (by rfl) ?_; dsimp only)); refine box_event ?hg (N := 4) ?hd (cs := #[.bool a1_0, .string a1_1, .string a1_2, .int .u64 a1_3, .int .u64 a1_4, .int .u64 a1_5, .slice A1_6 l1_6.length c1_6]) (t := 61) ?hr ?_; (case hd => rfl); (case hg => rfl); (case hr => first | (go_simp; done) | (go_simp; rfl)); intro gb101 hg w7 hbox hb; have n0_ := aM' (below_step (by repeat (first | (with_reducible first | exact HB.out | apply below_alloc | apply pw_below_drewN | apply below_drew1) | exact HB.out)) hb); have n1_ := aM' (hbox); have n2_ := aM' ((by rw [hg]; exact (below_size (by repeat (first | (with_reducible first | exact HB.out | apply below_alloc | apply pw_below_drewN | apply below_drew1) | exact HB.out))) : w.heap.size ≤ gb101)); have n3_ := aM' ((by rw [hg]; exact (below_size (by repeat (first | (with_reducible first | exact HB.out | apply below_alloc | apply pw_below_drewN | apply below_drew1) | exact HB.out))) : w.heap.size ≤ gb101)); clear HB; have HB := n0_; have BK101 := n1_; have GW101 := n2_; have GE101 := n3_; clear n0_ n1_ n2_ n3_; clear hb hbox hg) | ((with_reducible refine gate_dst (N := 5) rfl ?_); (try (refine gate_guard (by rfl) ?_; dsimp only)); refine box_event ?hg (N := 5) ?hd (cs := #[.string a2_0, .int .u64 a2_1, .int .u64 a2_2, .int .i64 a2_3]) (t := 63) ?hr ?_; (case hd => rfl); (case hg => rfl); (case hr => first | (go_simp; done) | (go_simp; rfl)); intro gb102 hg w8 hbox hb; have n0_ := aM' (blk_below (g := gb101) (o := .cells #[.bool a1_0, .string a1_1, .string a1_2, .int .u64 a1_3, .int .u64 a1_4, .int .u64 a1_5, .slice A1_6 l1_6.length c1_6] 61 (0, 0)) (by (with_reducible repeat (first | refine blk_drewN ?_ _ | refine blk_drew ?_ | refine blk_alloc ?_ _)); exact BK101.out) hb); have n1_ := aM' (below_step (by repeat (first | (with_reducible first | exact HB.out | apply below_alloc | apply pw_below_drewN | apply below_drew1 | refine below_set ?_ GE101.out) | exact HB.out)) hb); have n2_ := aM' (hbox); have n3_ := aM' ((by rw [hg]; exact (below_size (by repeat (first | (with_reducible first | exact HB.out | apply below_alloc | apply pw_below_drewN | apply below_drew1 | refine below_set ?_ GE101.out) | exact HB.out))) : w.heap.size ≤ gb102)); have n4_ := aM' ((by rw [hg]; exact (below_size (by repeat (first | (with_reducible first | exact HB.out | apply below_alloc | apply pw_below_drewN | apply below_drew1 | refine below_set ?_ GE101.out) | exact HB.out))) : w.heap.size ≤ gb102)); have n5_ := aM' ((by rw [hg]; exact Nat.ne_of_lt (blk_lt (g := gb101) (o := .cells #[.bool a1_0, .string a1_1, .string a1_2, .int .u64 a1_3, .int .u64 a1_4, .int .u64 a1_5, .slice A1_6 l1_6.length c1_6] 61 (0, 0)) (by (with_reducible repeat (first | refine blk_drewN ?_ _ | refine blk_drew ?_ | refine blk_alloc ?_ _)); exact BK101.out)) : gb101 ≠ gb102)); have n6_ := aM' ((by rw [hg]; exact Nat.ne_of_gt (blk_lt (g := gb101) (o := .cells #[.bool a1_0, .string a1_1, .string a1_2, .int .u64 a1_3, .int .u64 a1_4, .int .u64 a1_5, .slice A1_6 l1_6.length c1_6] 61 (0, 0)) (by (with_reducible repeat (first | refine blk_drewN ?_ _ | refine blk_drew ?_ | refine blk_alloc ?_ _)); exact BK101.out)) : gb102 ≠ gb101)); clear BK101; clear HB; have BK101 := n0_; have HB := n1_; have BK102 := n2_; have GW102 := n3_; have GE102 := n4_; have NB101_102 := n5_; have NB102_101 := n6_; clear n0_ n1_ n2_ n3_ n4_ n5_ n6_; clear hb hbox hg) | ((with_reducible refine gate_callee (f := 26) rfl ?_); refine goesL_ (some 12) rfl rfl Tryd.func26 (by kernel_rfl) rfl #[] rfl (by (try simp only [List.map_toArray, List.map_cons, List.map_nil]); first | done | rfl | (simp only [List.length_drop, List.length_take]; rfl)) ?_; (with_reducible refine (paymasterlaw17_awake.calls  true _ ?side1 A4.out).mono ?_); (case side1 => exact LaidT.below HLD.out (by repeat (first | (with_reducible first | exact HB.out | apply below_alloc | apply pw_below_drewN | apply below_drew1 | refine below_set ?_ GE101.out | refine below_set ?_ GE102.out) | exact HB.out))); rintro e w9 ⟨rfl, hb⟩; refine ⟨_, rfl, ?_⟩; have n0_ := aM' (blk_below (g := gb101) (o := .cells #[.bool a1_0, .string a1_1, .string a1_2, .int .u64 a1_3, .int .u64 a1_4, .int .u64 a1_5, .slice A1_6 l1_6.length c1_6] 61 (0, 0)) (by (with_reducible repeat (first | refine blk_drewN ?_ _ | refine blk_drew ?_ | refine blk_alloc ?_ _)); exact BK101.out) hb); have n1_ := aM' (blk_below (g := gb102) (o := .cells #[.string a2_0, .int .u64 a2_1, .int .u64 a2_2, .int .i64 a2_3] 63 (0, 0)) (by (with_reducible repeat (first | refine blk_drewN ?_ _ | refine blk_drew ?_ | refine blk_alloc ?_ _)); exact BK102.out) hb); have n2_ := aM' (below_step (by repeat (first | (with_reducible first | exact HB.out | apply below_alloc | apply pw_below_drewN | apply below_drew1 | refine below_set ?_ GE101.out | refine below_set ?_ GE102.out) | exact HB.out)) hb); clear BK101; clear BK102; clear HB; have BK101 := n0_; have BK102 := n1_; have HB := n2_; clear n0_ n1_ n2_; (try clear hb); (try clear hb2); (try clear hk); (try clear hi)))
  (try simp only [Act.put, List.setIfInBounds_toArray, List.set_cons_zero, List.set_cons_succ])
  go_cut [21] (fun v21 wc => ∃ (kq : Nat) (x21_5 : Bool), v21 = .bool x21_5 ∧ Aside0 (paymasterlaw17_VerifyOne.j0 kq a0 x21_5 a1_0 a1_1 a1_2 a1_3 a1_4 a1_5 l1_6 a2_0 a2_1 a2_2 a2_3 = some r) ∧ Aside0 (kq ≤ k) ∧ Aside0 (wc.heap[gb101]? = some (.cells #[.bool a1_0, .string a1_1, .string a1_2, .int .u64 a1_3, .int .u64 a1_4, .int .u64 a1_5, (.slice A1_6 l1_6.length c1_6)] 61 (0, 0))) ∧ Aside0 (wc.heap[gb102]? = some (.cells #[.string a2_0, .int .u64 a2_1, .int .u64 a2_2, .int .i64 a2_3] 63 (0, 0))) ∧ Aside0 (Below w.heap.size w wc))
  case first =>
   have H := HC6.out
   clear HC6
   replace H := Option.bind_eq_some_iff.mp H
   obtain ⟨t104, A100, H⟩ := H
   replace H : (if t104 = true then (paymasterlaw17_VerifyOne.j0 k a0 true a1_0 a1_1 a1_2 a1_3 a1_4 a1_5 l1_6 a2_0 a2_1 a2_2 a2_3) else (paymasterlaw17_VerifyOne.j0 k a0 (decide ((a2_0.size : Int) > 60)) a1_0 a1_1 a1_2 a1_3 a1_4 a1_5 l1_6 a2_0 a2_1 a2_2 a2_3)) = some r := H
   have A10 := aM' A100
   clear A100
   by_cases c11 : t104 = true
   ·
    subst c11
    have H1 : (paymasterlaw17_VerifyOne.j0 k a0 true a1_0 a1_1 a1_2 a1_3 a1_4 a1_5 l1_6 a2_0 a2_1 a2_2 a2_3) = some r := by rw [if_pos rfl] at H; exact H
    clear H
    have H := H1
    clear H1
    have H' := aM' H
    clear H
    have hnb12 := NB101_102.out
    have hnc12 := NB102_101.out
    have hcz13_0 : w9.cell? ⟨gb101, 0, none⟩ = some (.bool a1_0) := (blk_cell BK101.out 0).trans rfl
    have hcz13_1 : w9.cell? ⟨gb101, 1, none⟩ = some (.string a1_1) := (blk_cell BK101.out 1).trans rfl
    have hcz13_2 : w9.cell? ⟨gb101, 2, none⟩ = some (.string a1_2) := (blk_cell BK101.out 2).trans rfl
    have hcz13_3 : w9.cell? ⟨gb101, 3, none⟩ = some (.int .u64 a1_3) := (blk_cell BK101.out 3).trans rfl
    have hcz13_4 : w9.cell? ⟨gb101, 4, none⟩ = some (.int .u64 a1_4) := (blk_cell BK101.out 4).trans rfl
    have hcz13_5 : w9.cell? ⟨gb101, 5, none⟩ = some (.int .u64 a1_5) := (blk_cell BK101.out 5).trans rfl
    have hcz13_6 : w9.cell? ⟨gb101, 6, none⟩ = some (.slice A1_6 l1_6.length c1_6) := (blk_cell BK101.out 6).trans rfl
    have hfz13_0 := blk_frozen BK101.out 0
    have hfz13_1 := blk_frozen BK101.out 1
    have hfz13_2 := blk_frozen BK101.out 2
    have hfz13_3 := blk_frozen BK101.out 3
    have hfz13_4 := blk_frozen BK101.out 4
    have hfz13_5 := blk_frozen BK101.out 5
    have hfz13_6 := blk_frozen BK101.out 6
    go_wp2_with (first | ((with_reducible refine gate_callee (f := 27) rfl ?_); refine goesL_ (some 15) rfl rfl Tryd.func27 (by kernel_rfl) rfl #[.agg #[.bool a1_0, .string a1_1, .string a1_2, .int .u64 a1_3, .int .u64 a1_4, .int .u64 a1_5, .slice A1_6 l1_6.length c1_6]] rfl (by (try simp only [List.map_toArray, List.map_cons, List.map_nil]); first | done | rfl | (simp only [List.length_drop, List.length_take]; rfl)) ?_; (with_reducible refine (paymasterlaw16_LongEntry.calls k a1_0 a1_1 a1_2 a1_3 a1_4 a1_5 _ _ l1_6 true _ ?side1 ?side2 A10.out).mono ?_); (case side1 => repeat (first | exact (Kd.C_below HR1_6.out HB.out) | (with_reducible refine Kd.C_alloc ?_ _) | (with_reducible refine Kd.C_drewN ?_ _) | (with_reducible refine Kd.C_drew ?_))); (case side2 => exact HC1_6.out); rintro e w14 ⟨rfl, hb⟩; refine ⟨_, rfl, ?_⟩; have n0_ := aM' (blk_below (g := gb101) (o := .cells #[.bool a1_0, .string a1_1, .string a1_2, .int .u64 a1_3, .int .u64 a1_4, .int .u64 a1_5, .slice A1_6 l1_6.length c1_6] 61 (0, 0)) (by (with_reducible repeat (first | refine blk_drewN ?_ _ | refine blk_drew ?_ | refine blk_alloc ?_ _)); exact BK101.out) hb); have n1_ := aM' (blk_below (g := gb102) (o := .cells #[.string a2_0, .int .u64 a2_1, .int .u64 a2_2, .int .i64 a2_3] 63 (0, 0)) (by (with_reducible repeat (first | refine blk_drewN ?_ _ | refine blk_drew ?_ | refine blk_alloc ?_ _)); exact BK102.out) hb); have n2_ := aM' (below_step (by repeat (first | (with_reducible first | exact HB.out | apply below_alloc | apply pw_below_drewN | apply below_drew1 | refine below_set ?_ GE101.out | refine below_set ?_ GE102.out) | exact HB.out)) hb); clear BK101; clear BK102; clear HB; have BK101 := n0_; have BK102 := n1_; have HB := n2_; clear n0_ n1_ n2_; (try clear hb); (try clear hb2); (try clear hk); (try clear hi)))
    go_meet
    case rel => exact ⟨_, (true), (by first | rfl | (simp; done) | (simp [*]; done)), H', ⟨by first | omega | exact Nat.le_refl _⟩, ⟨by (with_reducible repeat (first | refine blk_drewN ?_ _ | refine blk_drew ?_ | refine blk_alloc ?_ _)); exact BK101.out⟩, ⟨by (with_reducible repeat (first | refine blk_drewN ?_ _ | refine blk_drew ?_ | refine blk_alloc ?_ _)); exact BK102.out⟩, ⟨by repeat (first | (with_reducible first | exact HB.out | apply below_alloc | apply pw_below_drewN | apply below_drew1 | refine below_set ?_ GE101.out | refine below_set ?_ GE102.out) | exact HB.out)⟩⟩
   ·
    replace c11 := Bool.eq_false_iff.mpr c11
    subst c11
    have H1 : (paymasterlaw17_VerifyOne.j0 k a0 (decide ((a2_0.size : Int) > 60)) a1_0 a1_1 a1_2 a1_3 a1_4 a1_5 l1_6 a2_0 a2_1 a2_2 a2_3) = some r := by rw [if_neg (show ¬ (false = true) by decide)] at H; exact H
    clear H
    have H := H1
    clear H1
    have H' := aM' H
    clear H
    have hnb15 := NB101_102.out
    have hnc15 := NB102_101.out
    have hcz16_0 : w9.cell? ⟨gb101, 0, none⟩ = some (.bool a1_0) := (blk_cell BK101.out 0).trans rfl
    have hcz16_1 : w9.cell? ⟨gb101, 1, none⟩ = some (.string a1_1) := (blk_cell BK101.out 1).trans rfl
    have hcz16_2 : w9.cell? ⟨gb101, 2, none⟩ = some (.string a1_2) := (blk_cell BK101.out 2).trans rfl
    have hcz16_3 : w9.cell? ⟨gb101, 3, none⟩ = some (.int .u64 a1_3) := (blk_cell BK101.out 3).trans rfl
    have hcz16_4 : w9.cell? ⟨gb101, 4, none⟩ = some (.int .u64 a1_4) := (blk_cell BK101.out 4).trans rfl
    have hcz16_5 : w9.cell? ⟨gb101, 5, none⟩ = some (.int .u64 a1_5) := (blk_cell BK101.out 5).trans rfl
    have hcz16_6 : w9.cell? ⟨gb101, 6, none⟩ = some (.slice A1_6 l1_6.length c1_6) := (blk_cell BK101.out 6).trans rfl
    have hfz16_0 := blk_frozen BK101.out 0
    have hfz16_1 := blk_frozen BK101.out 1
    have hfz16_2 := blk_frozen BK101.out 2
    have hfz16_3 := blk_frozen BK101.out 3
    have hfz16_4 := blk_frozen BK101.out 4
    have hfz16_5 := blk_frozen BK101.out 5
    have hfz16_6 := blk_frozen BK101.out 6
    go_wp2_with (first | ((with_reducible refine gate_callee (f := 27) rfl ?_); refine goesL_ (some 15) rfl rfl Tryd.func27 (by kernel_rfl) rfl #[.agg #[.bool a1_0, .string a1_1, .string a1_2, .int .u64 a1_3, .int .u64 a1_4, .int .u64 a1_5, .slice A1_6 l1_6.length c1_6]] rfl (by (try simp only [List.map_toArray, List.map_cons, List.map_nil]); first | done | rfl | (simp only [List.length_drop, List.length_take]; rfl)) ?_; (with_reducible refine (paymasterlaw16_LongEntry.calls k a1_0 a1_1 a1_2 a1_3 a1_4 a1_5 _ _ l1_6 false _ ?side1 ?side2 A10.out).mono ?_); (case side1 => repeat (first | exact (Kd.C_below HR1_6.out HB.out) | (with_reducible refine Kd.C_alloc ?_ _) | (with_reducible refine Kd.C_drewN ?_ _) | (with_reducible refine Kd.C_drew ?_))); (case side2 => exact HC1_6.out); rintro e w17 ⟨rfl, hb⟩; refine ⟨_, rfl, ?_⟩; have n0_ := aM' (blk_below (g := gb101) (o := .cells #[.bool a1_0, .string a1_1, .string a1_2, .int .u64 a1_3, .int .u64 a1_4, .int .u64 a1_5, .slice A1_6 l1_6.length c1_6] 61 (0, 0)) (by (with_reducible repeat (first | refine blk_drewN ?_ _ | refine blk_drew ?_ | refine blk_alloc ?_ _)); exact BK101.out) hb); have n1_ := aM' (blk_below (g := gb102) (o := .cells #[.string a2_0, .int .u64 a2_1, .int .u64 a2_2, .int .i64 a2_3] 63 (0, 0)) (by (with_reducible repeat (first | refine blk_drewN ?_ _ | refine blk_drew ?_ | refine blk_alloc ?_ _)); exact BK102.out) hb); have n2_ := aM' (below_step (by repeat (first | (with_reducible first | exact HB.out | apply below_alloc | apply pw_below_drewN | apply below_drew1 | refine below_set ?_ GE101.out | refine below_set ?_ GE102.out) | exact HB.out)) hb); clear BK101; clear BK102; clear HB; have BK101 := n0_; have BK102 := n1_; have HB := n2_; clear n0_ n1_ n2_; (try clear hb); (try clear hb2); (try clear hk); (try clear hi); have hcz18_0 : w17.cell? ⟨gb102, 0, none⟩ = some (.string a2_0) := (blk_cell BK102.out 0).trans rfl; have hcz18_1 : w17.cell? ⟨gb102, 1, none⟩ = some (.int .u64 a2_1) := (blk_cell BK102.out 1).trans rfl; have hcz18_2 : w17.cell? ⟨gb102, 2, none⟩ = some (.int .u64 a2_2) := (blk_cell BK102.out 2).trans rfl; have hcz18_3 : w17.cell? ⟨gb102, 3, none⟩ = some (.int .i64 a2_3) := (blk_cell BK102.out 3).trans rfl; have hfz18_0 := blk_frozen BK102.out 0; have hfz18_1 := blk_frozen BK102.out 1; have hfz18_2 := blk_frozen BK102.out 2; have hfz18_3 := blk_frozen BK102.out 3))
    go_meet
    case rel => exact ⟨_, (decide ((a2_0.size : Int) > 60)), (by first | rfl | (simp; done) | (simp [*]; done)), H', ⟨by first | omega | exact Nat.le_refl _⟩, ⟨by (with_reducible repeat (first | refine blk_drewN ?_ _ | refine blk_drew ?_ | refine blk_alloc ?_ _)); exact BK101.out⟩, ⟨by (with_reducible repeat (first | refine blk_drewN ?_ _ | refine blk_drew ?_ | refine blk_alloc ?_ _)); exact BK102.out⟩, ⟨by repeat (first | (with_reducible first | exact HB.out | apply below_alloc | apply pw_below_drewN | apply below_drew1 | refine below_set ?_ GE101.out | refine below_set ?_ GE102.out) | exact HB.out)⟩⟩
  case rest =>
   clear HC6
   try clear c1
   try clear c2
   try clear p2
   try clear c5
   try clear c9
   try clear c11
   try clear c12
   try clear c15
   try clear hcz13_0
   try clear hcz13_1
   try clear hcz13_2
   try clear hcz13_3
   try clear hcz13_4
   try clear hcz13_5
   try clear hcz13_6
   try clear hcz16_0
   try clear hcz16_1
   try clear hcz16_2
   try clear hcz16_3
   try clear hcz16_4
   try clear hcz16_5
   try clear hcz16_6
   try clear hcz18_0
   try clear hcz18_1
   try clear hcz18_2
   try clear hcz18_3
   try clear hfz13_0
   try clear hfz13_1
   try clear hfz13_2
   try clear hfz13_3
   try clear hfz13_4
   try clear hfz13_5
   try clear hfz13_6
   try clear hfz16_0
   try clear hfz16_1
   try clear hfz16_2
   try clear hfz16_3
   try clear hfz16_4
   try clear hfz16_5
   try clear hfz16_6
   try clear hfz18_0
   try clear hfz18_1
   try clear hfz18_2
   try clear hfz18_3
   obtain ⟨kq, x21_5, rfl, HA, HJ5, BK101, BK102, HB⟩ := hcut
   cases kq with
   | zero => exact absurd HA.out (by simp [paymasterlaw17_VerifyOne.j0])
   | succ kj5 =>
    have H := HA.out
    clear HA
    simp only [paymasterlaw17_VerifyOne.j0] at H
    by_cases c19 : x21_5 = true
    ·
     subst c19
     have H1 : (some true) = some r := by rw [if_pos rfl] at H; exact H
     clear H
     have H := H1
     clear H1
     obtain rfl := Option.some.inj H
     go_wp2
     go_ret
     exact ⟨by first | rfl | (simp [errW_none, errW_some] <;> rfl) | (simp [*, errW_none, errW_some] <;> rfl), by repeat (first | (with_reducible first | exact HB.out | apply below_alloc | apply pw_below_drewN | apply below_drew1 | refine below_set ?_ GE101.out | refine below_set ?_ GE102.out) | exact HB.out)⟩
    ·
     replace c19 := Bool.eq_false_iff.mpr c19
     subst c19
     have H1 : ((verify_Up.f a0 a1_0 a1_1 a1_2 a1_3 a1_4 a1_5 l1_6).bind fun bt105 => (if bt105.2.2.2.2 = 0 then ((verify_Check.f bt105.1 bt105.2.1 bt105.2.2.1 bt105.2.2.2.1 a1_0 a1_1 a1_2 a1_3 a1_4 a1_5 l1_6).bind fun t111 => (if t111 = 0 then ((verify_May.f kj5 bt105.1 bt105.2.1 bt105.2.2.1 bt105.2.2.2.1).bind fun t112 => (if t112 = 0 then (if (bt105.1.size : Int) = a0 then (paymasterlaw17_VerifyOne.j1 kj5 bt105.2.2.2.2 (bt105.2.2.2.1 != (l1_6.length : Int)) a1_0 a1_1 a1_2 a1_3 a1_4 a1_5 l1_6 a2_0 a2_1 a2_2 a2_3 bt105.1 bt105.2.1 bt105.2.2.1 bt105.2.2.2.1) else (paymasterlaw17_VerifyOne.j1 kj5 bt105.2.2.2.2 true a1_0 a1_1 a1_2 a1_3 a1_4 a1_5 l1_6 a2_0 a2_1 a2_2 a2_3 bt105.1 bt105.2.1 bt105.2.2.1 bt105.2.2.2.1)) else (paymasterlaw17_VerifyOne.j1 kj5 bt105.2.2.2.2 true a1_0 a1_1 a1_2 a1_3 a1_4 a1_5 l1_6 a2_0 a2_1 a2_2 a2_3 bt105.1 bt105.2.1 bt105.2.2.1 bt105.2.2.2.1))) else (paymasterlaw17_VerifyOne.j1 kj5 bt105.2.2.2.2 true a1_0 a1_1 a1_2 a1_3 a1_4 a1_5 l1_6 a2_0 a2_1 a2_2 a2_3 bt105.1 bt105.2.1 bt105.2.2.1 bt105.2.2.2.1))) else (paymasterlaw17_VerifyOne.j1 kj5 bt105.2.2.2.2 false a1_0 a1_1 a1_2 a1_3 a1_4 a1_5 l1_6 a2_0 a2_1 a2_2 a2_3 bt105.1 bt105.2.1 bt105.2.2.1 bt105.2.2.2.1))) = some r := by rw [if_neg (show ¬ (false = true) by decide)] at H; exact H
     clear H
     have H := H1
     clear H1
     replace H := Option.bind_eq_some_iff.mp H
     obtain ⟨⟨t105, t106, t107, t108, t109⟩, A200, H⟩ := H
     replace H : (if t109 = 0 then ((verify_Check.f t105 t106 t107 t108 a1_0 a1_1 a1_2 a1_3 a1_4 a1_5 l1_6).bind fun t111 => (if t111 = 0 then ((verify_May.f kj5 t105 t106 t107 t108).bind fun t112 => (if t112 = 0 then (if (t105.size : Int) = a0 then (paymasterlaw17_VerifyOne.j1 kj5 t109 (t108 != (l1_6.length : Int)) a1_0 a1_1 a1_2 a1_3 a1_4 a1_5 l1_6 a2_0 a2_1 a2_2 a2_3 t105 t106 t107 t108) else (paymasterlaw17_VerifyOne.j1 kj5 t109 true a1_0 a1_1 a1_2 a1_3 a1_4 a1_5 l1_6 a2_0 a2_1 a2_2 a2_3 t105 t106 t107 t108)) else (paymasterlaw17_VerifyOne.j1 kj5 t109 true a1_0 a1_1 a1_2 a1_3 a1_4 a1_5 l1_6 a2_0 a2_1 a2_2 a2_3 t105 t106 t107 t108))) else (paymasterlaw17_VerifyOne.j1 kj5 t109 true a1_0 a1_1 a1_2 a1_3 a1_4 a1_5 l1_6 a2_0 a2_1 a2_2 a2_3 t105 t106 t107 t108))) else (paymasterlaw17_VerifyOne.j1 kj5 t109 false a1_0 a1_1 a1_2 a1_3 a1_4 a1_5 l1_6 a2_0 a2_1 a2_2 a2_3 t105 t106 t107 t108)) = some r := H
     have A20 := aM' A200
     clear A200
     have HC21 := aM' H
     clear H
     have hnb22 := NB101_102.out
     have hnc22 := NB102_101.out
     have hcz23_0 : wc.cell? ⟨gb101, 0, none⟩ = some (.bool a1_0) := (blk_cell BK101.out 0).trans rfl
     have hcz23_1 : wc.cell? ⟨gb101, 1, none⟩ = some (.string a1_1) := (blk_cell BK101.out 1).trans rfl
     have hcz23_2 : wc.cell? ⟨gb101, 2, none⟩ = some (.string a1_2) := (blk_cell BK101.out 2).trans rfl
     have hcz23_3 : wc.cell? ⟨gb101, 3, none⟩ = some (.int .u64 a1_3) := (blk_cell BK101.out 3).trans rfl
     have hcz23_4 : wc.cell? ⟨gb101, 4, none⟩ = some (.int .u64 a1_4) := (blk_cell BK101.out 4).trans rfl
     have hcz23_5 : wc.cell? ⟨gb101, 5, none⟩ = some (.int .u64 a1_5) := (blk_cell BK101.out 5).trans rfl
     have hcz23_6 : wc.cell? ⟨gb101, 6, none⟩ = some (.slice A1_6 l1_6.length c1_6) := (blk_cell BK101.out 6).trans rfl
     have hfz23_0 := blk_frozen BK101.out 0
     have hfz23_1 := blk_frozen BK101.out 1
     have hfz23_2 := blk_frozen BK101.out 2
     have hfz23_3 := blk_frozen BK101.out 3
     have hfz23_4 := blk_frozen BK101.out 4
     have hfz23_5 := blk_frozen BK101.out 5
     have hfz23_6 := blk_frozen BK101.out 6
     go_upto_region 6 with (first | ((with_reducible refine gate_callee (f := 28) rfl ?_); refine goesL_ (some 25) rfl rfl Tryd.func28 (by kernel_rfl) rfl #[.int .i64 a0, .agg #[.bool a1_0, .string a1_1, .string a1_2, .int .u64 a1_3, .int .u64 a1_4, .int .u64 a1_5, .slice A1_6 l1_6.length c1_6]] rfl (by (try simp only [List.map_toArray, List.map_cons, List.map_nil]); first | done | rfl | (simp only [List.length_drop, List.length_take]; rfl)) ?_; (with_reducible refine (verify_Up.calls a0 a1_0 a1_1 a1_2 a1_3 a1_4 a1_5 _ _ l1_6 t105 t106 t107 t108 t109 _ ?side1 ?side2 ?side3 A20.out).mono ?_); (case side1 => exact LaidT.below HLD.out (by repeat (first | (with_reducible first | exact HB.out | apply below_alloc | apply pw_below_drewN | apply below_drew1 | refine below_set ?_ GE101.out | refine below_set ?_ GE102.out) | exact HB.out))); (case side2 => repeat (first | exact (Kd.C_below HR1_6.out HB.out) | (with_reducible refine Kd.C_alloc ?_ _) | (with_reducible refine Kd.C_drewN ?_ _) | (with_reducible refine Kd.C_drew ?_))); (case side3 => exact HC1_6.out); rintro e w24 ⟨rfl, hb⟩; refine ⟨_, rfl, ?_⟩; have n0_ := aM' (blk_below (g := gb101) (o := .cells #[.bool a1_0, .string a1_1, .string a1_2, .int .u64 a1_3, .int .u64 a1_4, .int .u64 a1_5, .slice A1_6 l1_6.length c1_6] 61 (0, 0)) (by (with_reducible repeat (first | refine blk_drewN ?_ _ | refine blk_drew ?_ | refine blk_alloc ?_ _)); exact BK101.out) hb); have n1_ := aM' (blk_below (g := gb102) (o := .cells #[.string a2_0, .int .u64 a2_1, .int .u64 a2_2, .int .i64 a2_3] 63 (0, 0)) (by (with_reducible repeat (first | refine blk_drewN ?_ _ | refine blk_drew ?_ | refine blk_alloc ?_ _)); exact BK102.out) hb); have n2_ := aM' (below_step (by repeat (first | (with_reducible first | exact HB.out | apply below_alloc | apply pw_below_drewN | apply below_drew1 | refine below_set ?_ GE101.out | refine below_set ?_ GE102.out) | exact HB.out)) hb); clear BK101; clear BK102; clear HB; have BK101 := n0_; have BK102 := n1_; have HB := n2_; clear n0_ n1_ n2_; (try clear hb); (try clear hb2); (try clear hk); (try clear hi)) | ((with_reducible refine gate_dst (N := 7) rfl ?_); (try (refine gate_guard (by rfl) ?_; dsimp only)); refine box_event ?hg (N := 7) ?hd (cs := #[.string (⟨#[]⟩ : ByteArray), .int .u64 0, .int .u64 0, .int .i64 0]) (t := 63) ?hr ?_; (case hd => rfl); (case hg => rfl); (case hr => first | (go_simp; done) | (go_simp; rfl)); intro gb110 hg w25 hbox hb; have n0_ := aM' (blk_below (g := gb101) (o := .cells #[.bool a1_0, .string a1_1, .string a1_2, .int .u64 a1_3, .int .u64 a1_4, .int .u64 a1_5, .slice A1_6 l1_6.length c1_6] 61 (0, 0)) (by (with_reducible repeat (first | refine blk_drewN ?_ _ | refine blk_drew ?_ | refine blk_alloc ?_ _)); exact BK101.out) hb); have n1_ := aM' (blk_below (g := gb102) (o := .cells #[.string a2_0, .int .u64 a2_1, .int .u64 a2_2, .int .i64 a2_3] 63 (0, 0)) (by (with_reducible repeat (first | refine blk_drewN ?_ _ | refine blk_drew ?_ | refine blk_alloc ?_ _)); exact BK102.out) hb); have n2_ := aM' (below_step (by repeat (first | (with_reducible first | exact HB.out | apply below_alloc | apply pw_below_drewN | apply below_drew1 | refine below_set ?_ GE101.out | refine below_set ?_ GE102.out) | exact HB.out)) hb); have n3_ := aM' (hbox); have n4_ := aM' ((by rw [hg]; exact (below_size (by repeat (first | (with_reducible first | exact HB.out | apply below_alloc | apply pw_below_drewN | apply below_drew1 | refine below_set ?_ GE101.out | refine below_set ?_ GE102.out) | exact HB.out))) : w.heap.size ≤ gb110)); have n5_ := aM' ((by rw [hg]; exact (below_size (by repeat (first | (with_reducible first | exact HB.out | apply below_alloc | apply pw_below_drewN | apply below_drew1 | refine below_set ?_ GE101.out | refine below_set ?_ GE102.out) | exact HB.out))) : w.heap.size ≤ gb110)); have n6_ := aM' ((by rw [hg]; exact Nat.ne_of_lt (blk_lt (g := gb101) (o := .cells #[.bool a1_0, .string a1_1, .string a1_2, .int .u64 a1_3, .int .u64 a1_4, .int .u64 a1_5, .slice A1_6 l1_6.length c1_6] 61 (0, 0)) (by (with_reducible repeat (first | refine blk_drewN ?_ _ | refine blk_drew ?_ | refine blk_alloc ?_ _)); exact BK101.out)) : gb101 ≠ gb110)); have n7_ := aM' ((by rw [hg]; exact Nat.ne_of_gt (blk_lt (g := gb101) (o := .cells #[.bool a1_0, .string a1_1, .string a1_2, .int .u64 a1_3, .int .u64 a1_4, .int .u64 a1_5, .slice A1_6 l1_6.length c1_6] 61 (0, 0)) (by (with_reducible repeat (first | refine blk_drewN ?_ _ | refine blk_drew ?_ | refine blk_alloc ?_ _)); exact BK101.out)) : gb110 ≠ gb101)); have n8_ := aM' ((by rw [hg]; exact Nat.ne_of_lt (blk_lt (g := gb102) (o := .cells #[.string a2_0, .int .u64 a2_1, .int .u64 a2_2, .int .i64 a2_3] 63 (0, 0)) (by (with_reducible repeat (first | refine blk_drewN ?_ _ | refine blk_drew ?_ | refine blk_alloc ?_ _)); exact BK102.out)) : gb102 ≠ gb110)); have n9_ := aM' ((by rw [hg]; exact Nat.ne_of_gt (blk_lt (g := gb102) (o := .cells #[.string a2_0, .int .u64 a2_1, .int .u64 a2_2, .int .i64 a2_3] 63 (0, 0)) (by (with_reducible repeat (first | refine blk_drewN ?_ _ | refine blk_drew ?_ | refine blk_alloc ?_ _)); exact BK102.out)) : gb110 ≠ gb102)); clear BK101; clear BK102; clear HB; have BK101 := n0_; have BK102 := n1_; have HB := n2_; have BK110 := n3_; have GW110 := n4_; have GE110 := n5_; have NB101_110 := n6_; have NB110_101 := n7_; have NB102_110 := n8_; have NB110_102 := n9_; clear n0_ n1_ n2_ n3_ n4_ n5_ n6_ n7_ n8_ n9_; clear hb hbox hg; have hnb26 := NB110_101.out; have hnc26 := NB101_110.out; have hnb27 := NB110_102.out; have hnc27 := NB102_110.out; have hcz28_0 : w25.cell? ⟨gb110, 0, none⟩ = some (.string (⟨#[]⟩ : ByteArray)) := (blk_cell BK110.out 0).trans rfl; have hcz28_1 : w25.cell? ⟨gb110, 1, none⟩ = some (.int .u64 0) := (blk_cell BK110.out 1).trans rfl; have hcz28_2 : w25.cell? ⟨gb110, 2, none⟩ = some (.int .u64 0) := (blk_cell BK110.out 2).trans rfl; have hcz28_3 : w25.cell? ⟨gb110, 3, none⟩ = some (.int .i64 0) := (blk_cell BK110.out 3).trans rfl; have hfz28_0 := blk_frozen BK110.out 0; have hfz28_1 := blk_frozen BK110.out 1; have hfz28_2 := blk_frozen BK110.out 2; have hfz28_3 := blk_frozen BK110.out 3))
     (try simp only [Act.put, List.setIfInBounds_toArray, List.set_cons_zero, List.set_cons_succ])
     go_cut [56] (fun v56 wc => ∃ (kq : Nat) (x56_20 : Bool), v56 = .bool x56_20 ∧ Aside0 (paymasterlaw17_VerifyOne.j1 kq t109 x56_20 a1_0 a1_1 a1_2 a1_3 a1_4 a1_5 l1_6 a2_0 a2_1 a2_2 a2_3 t105 t106 t107 t108 = some r) ∧ Aside0 (kq ≤ kj5) ∧ Aside0 (wc.heap[gb101]? = some (.cells #[.bool a1_0, .string a1_1, .string a1_2, .int .u64 a1_3, .int .u64 a1_4, .int .u64 a1_5, (.slice A1_6 l1_6.length c1_6)] 61 (0, 0))) ∧ Aside0 (wc.heap[gb102]? = some (.cells #[.string a2_0, .int .u64 a2_1, .int .u64 a2_2, .int .i64 a2_3] 63 (0, 0))) ∧ Aside0 (wc.heap[gb110]? = some (.cells #[.string t105, .int .u64 t106, .int .u64 t107, .int .i64 t108] 63 (0, 0))) ∧ Aside0 (Below w.heap.size w wc))
     case first =>
      have H := HC21.out
      clear HC21
      by_cases c29 : t109 = 0
      ·
       rw [if_pos c29] at H
       have c29b0 : (t109 == 0) = true := beq_iff_eq.mpr c29
       have c29b1 : (t109 != 0) = false := bne_eq_false_iff_eq.mpr c29
       clear c29
       (first | rw [c29b0] | (simp only [i64_w, i32_w]; rw [c29b0]) | skip)
       replace H := Option.bind_eq_some_iff.mp H
       obtain ⟨t111, A300, H⟩ := H
       replace H : (if t111 = 0 then ((verify_May.f kj5 t105 t106 t107 t108).bind fun t112 => (if t112 = 0 then (if (t105.size : Int) = a0 then (paymasterlaw17_VerifyOne.j1 kj5 t109 (t108 != (l1_6.length : Int)) a1_0 a1_1 a1_2 a1_3 a1_4 a1_5 l1_6 a2_0 a2_1 a2_2 a2_3 t105 t106 t107 t108) else (paymasterlaw17_VerifyOne.j1 kj5 t109 true a1_0 a1_1 a1_2 a1_3 a1_4 a1_5 l1_6 a2_0 a2_1 a2_2 a2_3 t105 t106 t107 t108)) else (paymasterlaw17_VerifyOne.j1 kj5 t109 true a1_0 a1_1 a1_2 a1_3 a1_4 a1_5 l1_6 a2_0 a2_1 a2_2 a2_3 t105 t106 t107 t108))) else (paymasterlaw17_VerifyOne.j1 kj5 t109 true a1_0 a1_1 a1_2 a1_3 a1_4 a1_5 l1_6 a2_0 a2_1 a2_2 a2_3 t105 t106 t107 t108)) = some r := H
       have A30 := aM' A300
       clear A300
       by_cases c31 : t111 = 0
       ·
        rw [if_pos c31] at H
        have c31b0 : (t111 == 0) = true := beq_iff_eq.mpr c31
        have c31b1 : (t111 != 0) = false := bne_eq_false_iff_eq.mpr c31
        clear c31
        replace H := Option.bind_eq_some_iff.mp H
        obtain ⟨t112, A320, H⟩ := H
        replace H : (if t112 = 0 then (if (t105.size : Int) = a0 then (paymasterlaw17_VerifyOne.j1 kj5 t109 (t108 != (l1_6.length : Int)) a1_0 a1_1 a1_2 a1_3 a1_4 a1_5 l1_6 a2_0 a2_1 a2_2 a2_3 t105 t106 t107 t108) else (paymasterlaw17_VerifyOne.j1 kj5 t109 true a1_0 a1_1 a1_2 a1_3 a1_4 a1_5 l1_6 a2_0 a2_1 a2_2 a2_3 t105 t106 t107 t108)) else (paymasterlaw17_VerifyOne.j1 kj5 t109 true a1_0 a1_1 a1_2 a1_3 a1_4 a1_5 l1_6 a2_0 a2_1 a2_2 a2_3 t105 t106 t107 t108)) = some r := H
        have A32 := aM' A320
        clear A320
        by_cases c33 : t112 = 0
        ·
         rw [if_pos c33] at H
         have c33b0 : (t112 == 0) = true := beq_iff_eq.mpr c33
         have c33b1 : (t112 != 0) = false := bne_eq_false_iff_eq.mpr c33
         clear c33
         by_cases c34 : (t105.size : Int) = a0
         ·
          rw [if_pos c34] at H
          have c34b0 : ((t105.size : Int) == a0) = true := beq_iff_eq.mpr c34
          have c34b1 : ((t105.size : Int) != a0) = false := bne_eq_false_iff_eq.mpr c34
          clear c34
          have H' := aM' H
          clear H
          have hnb35 := NB110_101.out
          have hnc35 := NB101_110.out
          have hnb36 := NB110_102.out
          have hnc36 := NB102_110.out
          have hcz37_0 : w25.cell? ⟨gb110, 0, none⟩ = some (.string (⟨#[]⟩ : ByteArray)) := (blk_cell BK110.out 0).trans rfl
          have hcz37_1 : w25.cell? ⟨gb110, 1, none⟩ = some (.int .u64 0) := (blk_cell BK110.out 1).trans rfl
          have hcz37_2 : w25.cell? ⟨gb110, 2, none⟩ = some (.int .u64 0) := (blk_cell BK110.out 2).trans rfl
          have hcz37_3 : w25.cell? ⟨gb110, 3, none⟩ = some (.int .i64 0) := (blk_cell BK110.out 3).trans rfl
          have hfz37_0 := blk_frozen BK110.out 0
          have hfz37_1 := blk_frozen BK110.out 1
          have hfz37_2 := blk_frozen BK110.out 2
          have hfz37_3 := blk_frozen BK110.out 3
          have hnb38 := NB101_102.out
          have hnc38 := NB102_101.out
          have hcz39_0 : w25.cell? ⟨gb101, 0, none⟩ = some (.bool a1_0) := (blk_cell BK101.out 0).trans rfl
          have hcz39_1 : w25.cell? ⟨gb101, 1, none⟩ = some (.string a1_1) := (blk_cell BK101.out 1).trans rfl
          have hcz39_2 : w25.cell? ⟨gb101, 2, none⟩ = some (.string a1_2) := (blk_cell BK101.out 2).trans rfl
          have hcz39_3 : w25.cell? ⟨gb101, 3, none⟩ = some (.int .u64 a1_3) := (blk_cell BK101.out 3).trans rfl
          have hcz39_4 : w25.cell? ⟨gb101, 4, none⟩ = some (.int .u64 a1_4) := (blk_cell BK101.out 4).trans rfl
          have hcz39_5 : w25.cell? ⟨gb101, 5, none⟩ = some (.int .u64 a1_5) := (blk_cell BK101.out 5).trans rfl
          have hcz39_6 : w25.cell? ⟨gb101, 6, none⟩ = some (.slice A1_6 l1_6.length c1_6) := (blk_cell BK101.out 6).trans rfl
          have hfz39_0 := blk_frozen BK101.out 0
          have hfz39_1 := blk_frozen BK101.out 1
          have hfz39_2 := blk_frozen BK101.out 2
          have hfz39_3 := blk_frozen BK101.out 3
          have hfz39_4 := blk_frozen BK101.out 4
          have hfz39_5 := blk_frozen BK101.out 5
          have hfz39_6 := blk_frozen BK101.out 6
          go_wp2_with (first | (go_at_call 29; (with_reducible refine (verify_Check.calls t105 t106 t107 t108 a1_0 a1_1 a1_2 a1_3 a1_4 a1_5 _ _ l1_6 t111 _ ?side1 ?side2 ?side3 A30.out).mono ?_); (case side1 => exact LaidT.below HLD.out (by repeat (first | (with_reducible first | exact HB.out | apply below_alloc | apply pw_below_drewN | apply below_drew1 | refine below_set ?_ GE101.out | refine below_set ?_ GE102.out | refine below_set ?_ GE110.out) | exact HB.out))); (case side2 => exact Kd.C_below HR1_6.out (by repeat (first | (with_reducible first | exact HB.out | apply below_alloc | apply pw_below_drewN | apply below_drew1 | refine below_set ?_ GE101.out | refine below_set ?_ GE102.out | refine below_set ?_ GE110.out) | exact HB.out))); (case side3 => exact HC1_6.out); rintro e w40 ⟨rfl, hb⟩; have n0_ := aM' (blk_below (g := gb101) (o := .cells #[.bool a1_0, .string a1_1, .string a1_2, .int .u64 a1_3, .int .u64 a1_4, .int .u64 a1_5, .slice A1_6 l1_6.length c1_6] 61 (0, 0)) (by (with_reducible repeat (first | refine blk_drewN ?_ _ | refine blk_drew ?_ | refine blk_alloc ?_ _)); refine blk_far ?_ NB101_110.out _; (with_reducible repeat (first | refine blk_drewN ?_ _ | refine blk_drew ?_ | refine blk_alloc ?_ _)); refine blk_far ?_ NB101_110.out _; (with_reducible repeat (first | refine blk_drewN ?_ _ | refine blk_drew ?_ | refine blk_alloc ?_ _)); refine blk_far ?_ NB101_110.out _; (with_reducible repeat (first | refine blk_drewN ?_ _ | refine blk_drew ?_ | refine blk_alloc ?_ _)); refine blk_far ?_ NB101_110.out _; (with_reducible repeat (first | refine blk_drewN ?_ _ | refine blk_drew ?_ | refine blk_alloc ?_ _)); exact BK101.out) hb); have n1_ := aM' (blk_below (g := gb102) (o := .cells #[.string a2_0, .int .u64 a2_1, .int .u64 a2_2, .int .i64 a2_3] 63 (0, 0)) (by (with_reducible repeat (first | refine blk_drewN ?_ _ | refine blk_drew ?_ | refine blk_alloc ?_ _)); refine blk_far ?_ NB102_110.out _; (with_reducible repeat (first | refine blk_drewN ?_ _ | refine blk_drew ?_ | refine blk_alloc ?_ _)); refine blk_far ?_ NB102_110.out _; (with_reducible repeat (first | refine blk_drewN ?_ _ | refine blk_drew ?_ | refine blk_alloc ?_ _)); refine blk_far ?_ NB102_110.out _; (with_reducible repeat (first | refine blk_drewN ?_ _ | refine blk_drew ?_ | refine blk_alloc ?_ _)); refine blk_far ?_ NB102_110.out _; (with_reducible repeat (first | refine blk_drewN ?_ _ | refine blk_drew ?_ | refine blk_alloc ?_ _)); exact BK102.out) hb); have n2_ := aM' (blk_below (g := gb110) (o := .cells #[.string t105, .int .u64 t106, .int .u64 t107, .int .i64 t108] 63 (0, 0)) (by (with_reducible repeat (first | refine blk_drewN ?_ _ | refine blk_drew ?_ | refine blk_alloc ?_ _)); refine blk_put (cs := #[.string t105, .int .u64 t106, .int .u64 t107, .int .i64 0]) ?_ 3 _ rfl; (with_reducible repeat (first | refine blk_drewN ?_ _ | refine blk_drew ?_ | refine blk_alloc ?_ _)); refine blk_put (cs := #[.string t105, .int .u64 t106, .int .u64 0, .int .i64 0]) ?_ 2 _ rfl; (with_reducible repeat (first | refine blk_drewN ?_ _ | refine blk_drew ?_ | refine blk_alloc ?_ _)); refine blk_put (cs := #[.string t105, .int .u64 0, .int .u64 0, .int .i64 0]) ?_ 1 _ rfl; (with_reducible repeat (first | refine blk_drewN ?_ _ | refine blk_drew ?_ | refine blk_alloc ?_ _)); refine blk_put (cs := #[.string (⟨#[]⟩ : ByteArray), .int .u64 0, .int .u64 0, .int .i64 0]) ?_ 0 _ rfl; (with_reducible repeat (first | refine blk_drewN ?_ _ | refine blk_drew ?_ | refine blk_alloc ?_ _)); exact BK110.out) hb); have n3_ := aM' (below_step (by repeat (first | (with_reducible first | exact HB.out | apply below_alloc | apply pw_below_drewN | apply below_drew1 | refine below_set ?_ GE101.out | refine below_set ?_ GE102.out | refine below_set ?_ GE110.out) | exact HB.out)) hb); clear BK101; clear BK102; clear BK110; clear HB; have BK101 := n0_; have BK102 := n1_; have BK110 := n2_; have HB := n3_; clear n0_ n1_ n2_ n3_; (try clear hb); (try clear hb2); (try clear hk); (try clear hi); have hcz41_0 : w40.cell? ⟨gb110, 0, none⟩ = some (.string t105) := (blk_cell BK110.out 0).trans rfl; have hcz41_1 : w40.cell? ⟨gb110, 1, none⟩ = some (.int .u64 t106) := (blk_cell BK110.out 1).trans rfl; have hcz41_2 : w40.cell? ⟨gb110, 2, none⟩ = some (.int .u64 t107) := (blk_cell BK110.out 2).trans rfl; have hcz41_3 : w40.cell? ⟨gb110, 3, none⟩ = some (.int .i64 t108) := (blk_cell BK110.out 3).trans rfl; have hfz41_0 := blk_frozen BK110.out 0; have hfz41_1 := blk_frozen BK110.out 1; have hfz41_2 := blk_frozen BK110.out 2; have hfz41_3 := blk_frozen BK110.out 3) | (go_at_call 30; (with_reducible refine (verify_May.calls kj5 t105 t106 t107 t108 t112 _ A32.out).mono ?_); rintro e w42 ⟨rfl, hb⟩; have n0_ := aM' (blk_below (g := gb101) (o := .cells #[.bool a1_0, .string a1_1, .string a1_2, .int .u64 a1_3, .int .u64 a1_4, .int .u64 a1_5, .slice A1_6 l1_6.length c1_6] 61 (0, 0)) (by (with_reducible repeat (first | refine blk_drewN ?_ _ | refine blk_drew ?_ | refine blk_alloc ?_ _)); exact BK101.out) hb); have n1_ := aM' (blk_below (g := gb102) (o := .cells #[.string a2_0, .int .u64 a2_1, .int .u64 a2_2, .int .i64 a2_3] 63 (0, 0)) (by (with_reducible repeat (first | refine blk_drewN ?_ _ | refine blk_drew ?_ | refine blk_alloc ?_ _)); exact BK102.out) hb); have n2_ := aM' (blk_below (g := gb110) (o := .cells #[.string t105, .int .u64 t106, .int .u64 t107, .int .i64 t108] 63 (0, 0)) (by (with_reducible repeat (first | refine blk_drewN ?_ _ | refine blk_drew ?_ | refine blk_alloc ?_ _)); exact BK110.out) hb); have n3_ := aM' (below_step (by repeat (first | (with_reducible first | exact HB.out | apply below_alloc | apply pw_below_drewN | apply below_drew1 | refine below_set ?_ GE101.out | refine below_set ?_ GE102.out | refine below_set ?_ GE110.out) | exact HB.out)) hb); clear BK101; clear BK102; clear BK110; clear HB; have BK101 := n0_; have BK102 := n1_; have BK110 := n2_; have HB := n3_; clear n0_ n1_ n2_ n3_; (try clear hb); (try clear hb2); (try clear hk); (try clear hi); have hcz43_0 : w42.cell? ⟨gb110, 0, none⟩ = some (.string t105) := (blk_cell BK110.out 0).trans rfl; have hcz43_1 : w42.cell? ⟨gb110, 1, none⟩ = some (.int .u64 t106) := (blk_cell BK110.out 1).trans rfl; have hcz43_2 : w42.cell? ⟨gb110, 2, none⟩ = some (.int .u64 t107) := (blk_cell BK110.out 2).trans rfl; have hcz43_3 : w42.cell? ⟨gb110, 3, none⟩ = some (.int .i64 t108) := (blk_cell BK110.out 3).trans rfl; have hfz43_0 := blk_frozen BK110.out 0; have hfz43_1 := blk_frozen BK110.out 1; have hfz43_2 := blk_frozen BK110.out 2; have hfz43_3 := blk_frozen BK110.out 3; have hcz44_0 : w42.cell? ⟨gb101, 0, none⟩ = some (.bool a1_0) := (blk_cell BK101.out 0).trans rfl; have hcz44_1 : w42.cell? ⟨gb101, 1, none⟩ = some (.string a1_1) := (blk_cell BK101.out 1).trans rfl; have hcz44_2 : w42.cell? ⟨gb101, 2, none⟩ = some (.string a1_2) := (blk_cell BK101.out 2).trans rfl; have hcz44_3 : w42.cell? ⟨gb101, 3, none⟩ = some (.int .u64 a1_3) := (blk_cell BK101.out 3).trans rfl; have hcz44_4 : w42.cell? ⟨gb101, 4, none⟩ = some (.int .u64 a1_4) := (blk_cell BK101.out 4).trans rfl; have hcz44_5 : w42.cell? ⟨gb101, 5, none⟩ = some (.int .u64 a1_5) := (blk_cell BK101.out 5).trans rfl; have hcz44_6 : w42.cell? ⟨gb101, 6, none⟩ = some (.slice A1_6 l1_6.length c1_6) := (blk_cell BK101.out 6).trans rfl; have hfz44_0 := blk_frozen BK101.out 0; have hfz44_1 := blk_frozen BK101.out 1; have hfz44_2 := blk_frozen BK101.out 2; have hfz44_3 := blk_frozen BK101.out 3; have hfz44_4 := blk_frozen BK101.out 4; have hfz44_5 := blk_frozen BK101.out 5; have hfz44_6 := blk_frozen BK101.out 6))
          go_meet
          case rel => exact ⟨_, ((t108 != (l1_6.length : Int))), (by first | rfl | (simp; done) | (simp [*]; done)), H', ⟨by have := HJ5.out; first | omega | exact Nat.le_refl _⟩, ⟨by (with_reducible repeat (first | refine blk_drewN ?_ _ | refine blk_drew ?_ | refine blk_alloc ?_ _)); exact BK101.out⟩, ⟨by (with_reducible repeat (first | refine blk_drewN ?_ _ | refine blk_drew ?_ | refine blk_alloc ?_ _)); exact BK102.out⟩, ⟨by (with_reducible repeat (first | refine blk_drewN ?_ _ | refine blk_drew ?_ | refine blk_alloc ?_ _)); exact BK110.out⟩, ⟨by repeat (first | (with_reducible first | exact HB.out | apply below_alloc | apply pw_below_drewN | apply below_drew1 | refine below_set ?_ GE101.out | refine below_set ?_ GE102.out | refine below_set ?_ GE110.out) | exact HB.out)⟩⟩
         ·
          rw [if_neg c34] at H
          have c34b0 : ((t105.size : Int) == a0) = false := beq_eq_false_iff_ne.mpr c34
          have c34b1 : ((t105.size : Int) != a0) = true := bne_iff_ne.mpr c34
          have H' := aM' H
          clear H
          have hnb45 := NB110_101.out
          have hnc45 := NB101_110.out
          have hnb46 := NB110_102.out
          have hnc46 := NB102_110.out
          have hcz47_0 : w25.cell? ⟨gb110, 0, none⟩ = some (.string (⟨#[]⟩ : ByteArray)) := (blk_cell BK110.out 0).trans rfl
          have hcz47_1 : w25.cell? ⟨gb110, 1, none⟩ = some (.int .u64 0) := (blk_cell BK110.out 1).trans rfl
          have hcz47_2 : w25.cell? ⟨gb110, 2, none⟩ = some (.int .u64 0) := (blk_cell BK110.out 2).trans rfl
          have hcz47_3 : w25.cell? ⟨gb110, 3, none⟩ = some (.int .i64 0) := (blk_cell BK110.out 3).trans rfl
          have hfz47_0 := blk_frozen BK110.out 0
          have hfz47_1 := blk_frozen BK110.out 1
          have hfz47_2 := blk_frozen BK110.out 2
          have hfz47_3 := blk_frozen BK110.out 3
          have hnb48 := NB101_102.out
          have hnc48 := NB102_101.out
          have hcz49_0 : w25.cell? ⟨gb101, 0, none⟩ = some (.bool a1_0) := (blk_cell BK101.out 0).trans rfl
          have hcz49_1 : w25.cell? ⟨gb101, 1, none⟩ = some (.string a1_1) := (blk_cell BK101.out 1).trans rfl
          have hcz49_2 : w25.cell? ⟨gb101, 2, none⟩ = some (.string a1_2) := (blk_cell BK101.out 2).trans rfl
          have hcz49_3 : w25.cell? ⟨gb101, 3, none⟩ = some (.int .u64 a1_3) := (blk_cell BK101.out 3).trans rfl
          have hcz49_4 : w25.cell? ⟨gb101, 4, none⟩ = some (.int .u64 a1_4) := (blk_cell BK101.out 4).trans rfl
          have hcz49_5 : w25.cell? ⟨gb101, 5, none⟩ = some (.int .u64 a1_5) := (blk_cell BK101.out 5).trans rfl
          have hcz49_6 : w25.cell? ⟨gb101, 6, none⟩ = some (.slice A1_6 l1_6.length c1_6) := (blk_cell BK101.out 6).trans rfl
          have hfz49_0 := blk_frozen BK101.out 0
          have hfz49_1 := blk_frozen BK101.out 1
          have hfz49_2 := blk_frozen BK101.out 2
          have hfz49_3 := blk_frozen BK101.out 3
          have hfz49_4 := blk_frozen BK101.out 4
          have hfz49_5 := blk_frozen BK101.out 5
          have hfz49_6 := blk_frozen BK101.out 6
          go_wp2_with (first | (go_at_call 29; (with_reducible refine (verify_Check.calls t105 t106 t107 t108 a1_0 a1_1 a1_2 a1_3 a1_4 a1_5 _ _ l1_6 t111 _ ?side1 ?side2 ?side3 A30.out).mono ?_); (case side1 => exact LaidT.below HLD.out (by repeat (first | (with_reducible first | exact HB.out | apply below_alloc | apply pw_below_drewN | apply below_drew1 | refine below_set ?_ GE101.out | refine below_set ?_ GE102.out | refine below_set ?_ GE110.out) | exact HB.out))); (case side2 => exact Kd.C_below HR1_6.out (by repeat (first | (with_reducible first | exact HB.out | apply below_alloc | apply pw_below_drewN | apply below_drew1 | refine below_set ?_ GE101.out | refine below_set ?_ GE102.out | refine below_set ?_ GE110.out) | exact HB.out))); (case side3 => exact HC1_6.out); rintro e w50 ⟨rfl, hb⟩; have n0_ := aM' (blk_below (g := gb101) (o := .cells #[.bool a1_0, .string a1_1, .string a1_2, .int .u64 a1_3, .int .u64 a1_4, .int .u64 a1_5, .slice A1_6 l1_6.length c1_6] 61 (0, 0)) (by (with_reducible repeat (first | refine blk_drewN ?_ _ | refine blk_drew ?_ | refine blk_alloc ?_ _)); refine blk_far ?_ NB101_110.out _; (with_reducible repeat (first | refine blk_drewN ?_ _ | refine blk_drew ?_ | refine blk_alloc ?_ _)); refine blk_far ?_ NB101_110.out _; (with_reducible repeat (first | refine blk_drewN ?_ _ | refine blk_drew ?_ | refine blk_alloc ?_ _)); refine blk_far ?_ NB101_110.out _; (with_reducible repeat (first | refine blk_drewN ?_ _ | refine blk_drew ?_ | refine blk_alloc ?_ _)); refine blk_far ?_ NB101_110.out _; (with_reducible repeat (first | refine blk_drewN ?_ _ | refine blk_drew ?_ | refine blk_alloc ?_ _)); exact BK101.out) hb); have n1_ := aM' (blk_below (g := gb102) (o := .cells #[.string a2_0, .int .u64 a2_1, .int .u64 a2_2, .int .i64 a2_3] 63 (0, 0)) (by (with_reducible repeat (first | refine blk_drewN ?_ _ | refine blk_drew ?_ | refine blk_alloc ?_ _)); refine blk_far ?_ NB102_110.out _; (with_reducible repeat (first | refine blk_drewN ?_ _ | refine blk_drew ?_ | refine blk_alloc ?_ _)); refine blk_far ?_ NB102_110.out _; (with_reducible repeat (first | refine blk_drewN ?_ _ | refine blk_drew ?_ | refine blk_alloc ?_ _)); refine blk_far ?_ NB102_110.out _; (with_reducible repeat (first | refine blk_drewN ?_ _ | refine blk_drew ?_ | refine blk_alloc ?_ _)); refine blk_far ?_ NB102_110.out _; (with_reducible repeat (first | refine blk_drewN ?_ _ | refine blk_drew ?_ | refine blk_alloc ?_ _)); exact BK102.out) hb); have n2_ := aM' (blk_below (g := gb110) (o := .cells #[.string t105, .int .u64 t106, .int .u64 t107, .int .i64 t108] 63 (0, 0)) (by (with_reducible repeat (first | refine blk_drewN ?_ _ | refine blk_drew ?_ | refine blk_alloc ?_ _)); refine blk_put (cs := #[.string t105, .int .u64 t106, .int .u64 t107, .int .i64 0]) ?_ 3 _ rfl; (with_reducible repeat (first | refine blk_drewN ?_ _ | refine blk_drew ?_ | refine blk_alloc ?_ _)); refine blk_put (cs := #[.string t105, .int .u64 t106, .int .u64 0, .int .i64 0]) ?_ 2 _ rfl; (with_reducible repeat (first | refine blk_drewN ?_ _ | refine blk_drew ?_ | refine blk_alloc ?_ _)); refine blk_put (cs := #[.string t105, .int .u64 0, .int .u64 0, .int .i64 0]) ?_ 1 _ rfl; (with_reducible repeat (first | refine blk_drewN ?_ _ | refine blk_drew ?_ | refine blk_alloc ?_ _)); refine blk_put (cs := #[.string (⟨#[]⟩ : ByteArray), .int .u64 0, .int .u64 0, .int .i64 0]) ?_ 0 _ rfl; (with_reducible repeat (first | refine blk_drewN ?_ _ | refine blk_drew ?_ | refine blk_alloc ?_ _)); exact BK110.out) hb); have n3_ := aM' (below_step (by repeat (first | (with_reducible first | exact HB.out | apply below_alloc | apply pw_below_drewN | apply below_drew1 | refine below_set ?_ GE101.out | refine below_set ?_ GE102.out | refine below_set ?_ GE110.out) | exact HB.out)) hb); clear BK101; clear BK102; clear BK110; clear HB; have BK101 := n0_; have BK102 := n1_; have BK110 := n2_; have HB := n3_; clear n0_ n1_ n2_ n3_; (try clear hb); (try clear hb2); (try clear hk); (try clear hi); have hcz51_0 : w50.cell? ⟨gb110, 0, none⟩ = some (.string t105) := (blk_cell BK110.out 0).trans rfl; have hcz51_1 : w50.cell? ⟨gb110, 1, none⟩ = some (.int .u64 t106) := (blk_cell BK110.out 1).trans rfl; have hcz51_2 : w50.cell? ⟨gb110, 2, none⟩ = some (.int .u64 t107) := (blk_cell BK110.out 2).trans rfl; have hcz51_3 : w50.cell? ⟨gb110, 3, none⟩ = some (.int .i64 t108) := (blk_cell BK110.out 3).trans rfl; have hfz51_0 := blk_frozen BK110.out 0; have hfz51_1 := blk_frozen BK110.out 1; have hfz51_2 := blk_frozen BK110.out 2; have hfz51_3 := blk_frozen BK110.out 3) | (go_at_call 30; (with_reducible refine (verify_May.calls kj5 t105 t106 t107 t108 t112 _ A32.out).mono ?_); rintro e w52 ⟨rfl, hb⟩; have n0_ := aM' (blk_below (g := gb101) (o := .cells #[.bool a1_0, .string a1_1, .string a1_2, .int .u64 a1_3, .int .u64 a1_4, .int .u64 a1_5, .slice A1_6 l1_6.length c1_6] 61 (0, 0)) (by (with_reducible repeat (first | refine blk_drewN ?_ _ | refine blk_drew ?_ | refine blk_alloc ?_ _)); exact BK101.out) hb); have n1_ := aM' (blk_below (g := gb102) (o := .cells #[.string a2_0, .int .u64 a2_1, .int .u64 a2_2, .int .i64 a2_3] 63 (0, 0)) (by (with_reducible repeat (first | refine blk_drewN ?_ _ | refine blk_drew ?_ | refine blk_alloc ?_ _)); exact BK102.out) hb); have n2_ := aM' (blk_below (g := gb110) (o := .cells #[.string t105, .int .u64 t106, .int .u64 t107, .int .i64 t108] 63 (0, 0)) (by (with_reducible repeat (first | refine blk_drewN ?_ _ | refine blk_drew ?_ | refine blk_alloc ?_ _)); exact BK110.out) hb); have n3_ := aM' (below_step (by repeat (first | (with_reducible first | exact HB.out | apply below_alloc | apply pw_below_drewN | apply below_drew1 | refine below_set ?_ GE101.out | refine below_set ?_ GE102.out | refine below_set ?_ GE110.out) | exact HB.out)) hb); clear BK101; clear BK102; clear BK110; clear HB; have BK101 := n0_; have BK102 := n1_; have BK110 := n2_; have HB := n3_; clear n0_ n1_ n2_ n3_; (try clear hb); (try clear hb2); (try clear hk); (try clear hi); have hcz53_0 : w52.cell? ⟨gb110, 0, none⟩ = some (.string t105) := (blk_cell BK110.out 0).trans rfl; have hcz53_1 : w52.cell? ⟨gb110, 1, none⟩ = some (.int .u64 t106) := (blk_cell BK110.out 1).trans rfl; have hcz53_2 : w52.cell? ⟨gb110, 2, none⟩ = some (.int .u64 t107) := (blk_cell BK110.out 2).trans rfl; have hcz53_3 : w52.cell? ⟨gb110, 3, none⟩ = some (.int .i64 t108) := (blk_cell BK110.out 3).trans rfl; have hfz53_0 := blk_frozen BK110.out 0; have hfz53_1 := blk_frozen BK110.out 1; have hfz53_2 := blk_frozen BK110.out 2; have hfz53_3 := blk_frozen BK110.out 3))
          go_meet
          case rel => exact ⟨_, (true), (by first | rfl | (simp; done) | (simp [*]; done)), H', ⟨by have := HJ5.out; first | omega | exact Nat.le_refl _⟩, ⟨by (with_reducible repeat (first | refine blk_drewN ?_ _ | refine blk_drew ?_ | refine blk_alloc ?_ _)); exact BK101.out⟩, ⟨by (with_reducible repeat (first | refine blk_drewN ?_ _ | refine blk_drew ?_ | refine blk_alloc ?_ _)); exact BK102.out⟩, ⟨by (with_reducible repeat (first | refine blk_drewN ?_ _ | refine blk_drew ?_ | refine blk_alloc ?_ _)); exact BK110.out⟩, ⟨by repeat (first | (with_reducible first | exact HB.out | apply below_alloc | apply pw_below_drewN | apply below_drew1 | refine below_set ?_ GE101.out | refine below_set ?_ GE102.out | refine below_set ?_ GE110.out) | exact HB.out)⟩⟩
        ·
         rw [if_neg c33] at H
         have c33b0 : (t112 == 0) = false := beq_eq_false_iff_ne.mpr c33
         have c33b1 : (t112 != 0) = true := bne_iff_ne.mpr c33
         have H' := aM' H
         clear H
         have hnb54 := NB110_101.out
         have hnc54 := NB101_110.out
         have hnb55 := NB110_102.out
         have hnc55 := NB102_110.out
         have hcz56_0 : w25.cell? ⟨gb110, 0, none⟩ = some (.string (⟨#[]⟩ : ByteArray)) := (blk_cell BK110.out 0).trans rfl
         have hcz56_1 : w25.cell? ⟨gb110, 1, none⟩ = some (.int .u64 0) := (blk_cell BK110.out 1).trans rfl
         have hcz56_2 : w25.cell? ⟨gb110, 2, none⟩ = some (.int .u64 0) := (blk_cell BK110.out 2).trans rfl
         have hcz56_3 : w25.cell? ⟨gb110, 3, none⟩ = some (.int .i64 0) := (blk_cell BK110.out 3).trans rfl
         have hfz56_0 := blk_frozen BK110.out 0
         have hfz56_1 := blk_frozen BK110.out 1
         have hfz56_2 := blk_frozen BK110.out 2
         have hfz56_3 := blk_frozen BK110.out 3
         have hnb57 := NB101_102.out
         have hnc57 := NB102_101.out
         have hcz58_0 : w25.cell? ⟨gb101, 0, none⟩ = some (.bool a1_0) := (blk_cell BK101.out 0).trans rfl
         have hcz58_1 : w25.cell? ⟨gb101, 1, none⟩ = some (.string a1_1) := (blk_cell BK101.out 1).trans rfl
         have hcz58_2 : w25.cell? ⟨gb101, 2, none⟩ = some (.string a1_2) := (blk_cell BK101.out 2).trans rfl
         have hcz58_3 : w25.cell? ⟨gb101, 3, none⟩ = some (.int .u64 a1_3) := (blk_cell BK101.out 3).trans rfl
         have hcz58_4 : w25.cell? ⟨gb101, 4, none⟩ = some (.int .u64 a1_4) := (blk_cell BK101.out 4).trans rfl
         have hcz58_5 : w25.cell? ⟨gb101, 5, none⟩ = some (.int .u64 a1_5) := (blk_cell BK101.out 5).trans rfl
         have hcz58_6 : w25.cell? ⟨gb101, 6, none⟩ = some (.slice A1_6 l1_6.length c1_6) := (blk_cell BK101.out 6).trans rfl
         have hfz58_0 := blk_frozen BK101.out 0
         have hfz58_1 := blk_frozen BK101.out 1
         have hfz58_2 := blk_frozen BK101.out 2
         have hfz58_3 := blk_frozen BK101.out 3
         have hfz58_4 := blk_frozen BK101.out 4
         have hfz58_5 := blk_frozen BK101.out 5
         have hfz58_6 := blk_frozen BK101.out 6
         go_wp2_with (first | (go_at_call 29; (with_reducible refine (verify_Check.calls t105 t106 t107 t108 a1_0 a1_1 a1_2 a1_3 a1_4 a1_5 _ _ l1_6 t111 _ ?side1 ?side2 ?side3 A30.out).mono ?_); (case side1 => exact LaidT.below HLD.out (by repeat (first | (with_reducible first | exact HB.out | apply below_alloc | apply pw_below_drewN | apply below_drew1 | refine below_set ?_ GE101.out | refine below_set ?_ GE102.out | refine below_set ?_ GE110.out) | exact HB.out))); (case side2 => exact Kd.C_below HR1_6.out (by repeat (first | (with_reducible first | exact HB.out | apply below_alloc | apply pw_below_drewN | apply below_drew1 | refine below_set ?_ GE101.out | refine below_set ?_ GE102.out | refine below_set ?_ GE110.out) | exact HB.out))); (case side3 => exact HC1_6.out); rintro e w59 ⟨rfl, hb⟩; have n0_ := aM' (blk_below (g := gb101) (o := .cells #[.bool a1_0, .string a1_1, .string a1_2, .int .u64 a1_3, .int .u64 a1_4, .int .u64 a1_5, .slice A1_6 l1_6.length c1_6] 61 (0, 0)) (by (with_reducible repeat (first | refine blk_drewN ?_ _ | refine blk_drew ?_ | refine blk_alloc ?_ _)); refine blk_far ?_ NB101_110.out _; (with_reducible repeat (first | refine blk_drewN ?_ _ | refine blk_drew ?_ | refine blk_alloc ?_ _)); refine blk_far ?_ NB101_110.out _; (with_reducible repeat (first | refine blk_drewN ?_ _ | refine blk_drew ?_ | refine blk_alloc ?_ _)); refine blk_far ?_ NB101_110.out _; (with_reducible repeat (first | refine blk_drewN ?_ _ | refine blk_drew ?_ | refine blk_alloc ?_ _)); refine blk_far ?_ NB101_110.out _; (with_reducible repeat (first | refine blk_drewN ?_ _ | refine blk_drew ?_ | refine blk_alloc ?_ _)); exact BK101.out) hb); have n1_ := aM' (blk_below (g := gb102) (o := .cells #[.string a2_0, .int .u64 a2_1, .int .u64 a2_2, .int .i64 a2_3] 63 (0, 0)) (by (with_reducible repeat (first | refine blk_drewN ?_ _ | refine blk_drew ?_ | refine blk_alloc ?_ _)); refine blk_far ?_ NB102_110.out _; (with_reducible repeat (first | refine blk_drewN ?_ _ | refine blk_drew ?_ | refine blk_alloc ?_ _)); refine blk_far ?_ NB102_110.out _; (with_reducible repeat (first | refine blk_drewN ?_ _ | refine blk_drew ?_ | refine blk_alloc ?_ _)); refine blk_far ?_ NB102_110.out _; (with_reducible repeat (first | refine blk_drewN ?_ _ | refine blk_drew ?_ | refine blk_alloc ?_ _)); refine blk_far ?_ NB102_110.out _; (with_reducible repeat (first | refine blk_drewN ?_ _ | refine blk_drew ?_ | refine blk_alloc ?_ _)); exact BK102.out) hb); have n2_ := aM' (blk_below (g := gb110) (o := .cells #[.string t105, .int .u64 t106, .int .u64 t107, .int .i64 t108] 63 (0, 0)) (by (with_reducible repeat (first | refine blk_drewN ?_ _ | refine blk_drew ?_ | refine blk_alloc ?_ _)); refine blk_put (cs := #[.string t105, .int .u64 t106, .int .u64 t107, .int .i64 0]) ?_ 3 _ rfl; (with_reducible repeat (first | refine blk_drewN ?_ _ | refine blk_drew ?_ | refine blk_alloc ?_ _)); refine blk_put (cs := #[.string t105, .int .u64 t106, .int .u64 0, .int .i64 0]) ?_ 2 _ rfl; (with_reducible repeat (first | refine blk_drewN ?_ _ | refine blk_drew ?_ | refine blk_alloc ?_ _)); refine blk_put (cs := #[.string t105, .int .u64 0, .int .u64 0, .int .i64 0]) ?_ 1 _ rfl; (with_reducible repeat (first | refine blk_drewN ?_ _ | refine blk_drew ?_ | refine blk_alloc ?_ _)); refine blk_put (cs := #[.string (⟨#[]⟩ : ByteArray), .int .u64 0, .int .u64 0, .int .i64 0]) ?_ 0 _ rfl; (with_reducible repeat (first | refine blk_drewN ?_ _ | refine blk_drew ?_ | refine blk_alloc ?_ _)); exact BK110.out) hb); have n3_ := aM' (below_step (by repeat (first | (with_reducible first | exact HB.out | apply below_alloc | apply pw_below_drewN | apply below_drew1 | refine below_set ?_ GE101.out | refine below_set ?_ GE102.out | refine below_set ?_ GE110.out) | exact HB.out)) hb); clear BK101; clear BK102; clear BK110; clear HB; have BK101 := n0_; have BK102 := n1_; have BK110 := n2_; have HB := n3_; clear n0_ n1_ n2_ n3_; (try clear hb); (try clear hb2); (try clear hk); (try clear hi); have hcz60_0 : w59.cell? ⟨gb110, 0, none⟩ = some (.string t105) := (blk_cell BK110.out 0).trans rfl; have hcz60_1 : w59.cell? ⟨gb110, 1, none⟩ = some (.int .u64 t106) := (blk_cell BK110.out 1).trans rfl; have hcz60_2 : w59.cell? ⟨gb110, 2, none⟩ = some (.int .u64 t107) := (blk_cell BK110.out 2).trans rfl; have hcz60_3 : w59.cell? ⟨gb110, 3, none⟩ = some (.int .i64 t108) := (blk_cell BK110.out 3).trans rfl; have hfz60_0 := blk_frozen BK110.out 0; have hfz60_1 := blk_frozen BK110.out 1; have hfz60_2 := blk_frozen BK110.out 2; have hfz60_3 := blk_frozen BK110.out 3) | (go_at_call 30; (with_reducible refine (verify_May.calls kj5 t105 t106 t107 t108 t112 _ A32.out).mono ?_); rintro e w61 ⟨rfl, hb⟩; have n0_ := aM' (blk_below (g := gb101) (o := .cells #[.bool a1_0, .string a1_1, .string a1_2, .int .u64 a1_3, .int .u64 a1_4, .int .u64 a1_5, .slice A1_6 l1_6.length c1_6] 61 (0, 0)) (by (with_reducible repeat (first | refine blk_drewN ?_ _ | refine blk_drew ?_ | refine blk_alloc ?_ _)); exact BK101.out) hb); have n1_ := aM' (blk_below (g := gb102) (o := .cells #[.string a2_0, .int .u64 a2_1, .int .u64 a2_2, .int .i64 a2_3] 63 (0, 0)) (by (with_reducible repeat (first | refine blk_drewN ?_ _ | refine blk_drew ?_ | refine blk_alloc ?_ _)); exact BK102.out) hb); have n2_ := aM' (blk_below (g := gb110) (o := .cells #[.string t105, .int .u64 t106, .int .u64 t107, .int .i64 t108] 63 (0, 0)) (by (with_reducible repeat (first | refine blk_drewN ?_ _ | refine blk_drew ?_ | refine blk_alloc ?_ _)); exact BK110.out) hb); have n3_ := aM' (below_step (by repeat (first | (with_reducible first | exact HB.out | apply below_alloc | apply pw_below_drewN | apply below_drew1 | refine below_set ?_ GE101.out | refine below_set ?_ GE102.out | refine below_set ?_ GE110.out) | exact HB.out)) hb); clear BK101; clear BK102; clear BK110; clear HB; have BK101 := n0_; have BK102 := n1_; have BK110 := n2_; have HB := n3_; clear n0_ n1_ n2_ n3_; (try clear hb); (try clear hb2); (try clear hk); (try clear hi)))
         go_meet
         case rel => exact ⟨_, (true), (by first | rfl | (simp; done) | (simp [*]; done)), H', ⟨by have := HJ5.out; first | omega | exact Nat.le_refl _⟩, ⟨by (with_reducible repeat (first | refine blk_drewN ?_ _ | refine blk_drew ?_ | refine blk_alloc ?_ _)); exact BK101.out⟩, ⟨by (with_reducible repeat (first | refine blk_drewN ?_ _ | refine blk_drew ?_ | refine blk_alloc ?_ _)); exact BK102.out⟩, ⟨by (with_reducible repeat (first | refine blk_drewN ?_ _ | refine blk_drew ?_ | refine blk_alloc ?_ _)); exact BK110.out⟩, ⟨by repeat (first | (with_reducible first | exact HB.out | apply below_alloc | apply pw_below_drewN | apply below_drew1 | refine below_set ?_ GE101.out | refine below_set ?_ GE102.out | refine below_set ?_ GE110.out) | exact HB.out)⟩⟩
       ·
        rw [if_neg c31] at H
        have c31b0 : (t111 == 0) = false := beq_eq_false_iff_ne.mpr c31
        have c31b1 : (t111 != 0) = true := bne_iff_ne.mpr c31
        have H' := aM' H
        clear H
        have hnb62 := NB110_101.out
        have hnc62 := NB101_110.out
        have hnb63 := NB110_102.out
        have hnc63 := NB102_110.out
        have hcz64_0 : w25.cell? ⟨gb110, 0, none⟩ = some (.string (⟨#[]⟩ : ByteArray)) := (blk_cell BK110.out 0).trans rfl
        have hcz64_1 : w25.cell? ⟨gb110, 1, none⟩ = some (.int .u64 0) := (blk_cell BK110.out 1).trans rfl
        have hcz64_2 : w25.cell? ⟨gb110, 2, none⟩ = some (.int .u64 0) := (blk_cell BK110.out 2).trans rfl
        have hcz64_3 : w25.cell? ⟨gb110, 3, none⟩ = some (.int .i64 0) := (blk_cell BK110.out 3).trans rfl
        have hfz64_0 := blk_frozen BK110.out 0
        have hfz64_1 := blk_frozen BK110.out 1
        have hfz64_2 := blk_frozen BK110.out 2
        have hfz64_3 := blk_frozen BK110.out 3
        have hnb65 := NB101_102.out
        have hnc65 := NB102_101.out
        have hcz66_0 : w25.cell? ⟨gb101, 0, none⟩ = some (.bool a1_0) := (blk_cell BK101.out 0).trans rfl
        have hcz66_1 : w25.cell? ⟨gb101, 1, none⟩ = some (.string a1_1) := (blk_cell BK101.out 1).trans rfl
        have hcz66_2 : w25.cell? ⟨gb101, 2, none⟩ = some (.string a1_2) := (blk_cell BK101.out 2).trans rfl
        have hcz66_3 : w25.cell? ⟨gb101, 3, none⟩ = some (.int .u64 a1_3) := (blk_cell BK101.out 3).trans rfl
        have hcz66_4 : w25.cell? ⟨gb101, 4, none⟩ = some (.int .u64 a1_4) := (blk_cell BK101.out 4).trans rfl
        have hcz66_5 : w25.cell? ⟨gb101, 5, none⟩ = some (.int .u64 a1_5) := (blk_cell BK101.out 5).trans rfl
        have hcz66_6 : w25.cell? ⟨gb101, 6, none⟩ = some (.slice A1_6 l1_6.length c1_6) := (blk_cell BK101.out 6).trans rfl
        have hfz66_0 := blk_frozen BK101.out 0
        have hfz66_1 := blk_frozen BK101.out 1
        have hfz66_2 := blk_frozen BK101.out 2
        have hfz66_3 := blk_frozen BK101.out 3
        have hfz66_4 := blk_frozen BK101.out 4
        have hfz66_5 := blk_frozen BK101.out 5
        have hfz66_6 := blk_frozen BK101.out 6
        go_wp2_with (first | (go_at_call 29; (with_reducible refine (verify_Check.calls t105 t106 t107 t108 a1_0 a1_1 a1_2 a1_3 a1_4 a1_5 _ _ l1_6 t111 _ ?side1 ?side2 ?side3 A30.out).mono ?_); (case side1 => exact LaidT.below HLD.out (by repeat (first | (with_reducible first | exact HB.out | apply below_alloc | apply pw_below_drewN | apply below_drew1 | refine below_set ?_ GE101.out | refine below_set ?_ GE102.out | refine below_set ?_ GE110.out) | exact HB.out))); (case side2 => exact Kd.C_below HR1_6.out (by repeat (first | (with_reducible first | exact HB.out | apply below_alloc | apply pw_below_drewN | apply below_drew1 | refine below_set ?_ GE101.out | refine below_set ?_ GE102.out | refine below_set ?_ GE110.out) | exact HB.out))); (case side3 => exact HC1_6.out); rintro e w67 ⟨rfl, hb⟩; have n0_ := aM' (blk_below (g := gb101) (o := .cells #[.bool a1_0, .string a1_1, .string a1_2, .int .u64 a1_3, .int .u64 a1_4, .int .u64 a1_5, .slice A1_6 l1_6.length c1_6] 61 (0, 0)) (by (with_reducible repeat (first | refine blk_drewN ?_ _ | refine blk_drew ?_ | refine blk_alloc ?_ _)); refine blk_far ?_ NB101_110.out _; (with_reducible repeat (first | refine blk_drewN ?_ _ | refine blk_drew ?_ | refine blk_alloc ?_ _)); refine blk_far ?_ NB101_110.out _; (with_reducible repeat (first | refine blk_drewN ?_ _ | refine blk_drew ?_ | refine blk_alloc ?_ _)); refine blk_far ?_ NB101_110.out _; (with_reducible repeat (first | refine blk_drewN ?_ _ | refine blk_drew ?_ | refine blk_alloc ?_ _)); refine blk_far ?_ NB101_110.out _; (with_reducible repeat (first | refine blk_drewN ?_ _ | refine blk_drew ?_ | refine blk_alloc ?_ _)); exact BK101.out) hb); have n1_ := aM' (blk_below (g := gb102) (o := .cells #[.string a2_0, .int .u64 a2_1, .int .u64 a2_2, .int .i64 a2_3] 63 (0, 0)) (by (with_reducible repeat (first | refine blk_drewN ?_ _ | refine blk_drew ?_ | refine blk_alloc ?_ _)); refine blk_far ?_ NB102_110.out _; (with_reducible repeat (first | refine blk_drewN ?_ _ | refine blk_drew ?_ | refine blk_alloc ?_ _)); refine blk_far ?_ NB102_110.out _; (with_reducible repeat (first | refine blk_drewN ?_ _ | refine blk_drew ?_ | refine blk_alloc ?_ _)); refine blk_far ?_ NB102_110.out _; (with_reducible repeat (first | refine blk_drewN ?_ _ | refine blk_drew ?_ | refine blk_alloc ?_ _)); refine blk_far ?_ NB102_110.out _; (with_reducible repeat (first | refine blk_drewN ?_ _ | refine blk_drew ?_ | refine blk_alloc ?_ _)); exact BK102.out) hb); have n2_ := aM' (blk_below (g := gb110) (o := .cells #[.string t105, .int .u64 t106, .int .u64 t107, .int .i64 t108] 63 (0, 0)) (by (with_reducible repeat (first | refine blk_drewN ?_ _ | refine blk_drew ?_ | refine blk_alloc ?_ _)); refine blk_put (cs := #[.string t105, .int .u64 t106, .int .u64 t107, .int .i64 0]) ?_ 3 _ rfl; (with_reducible repeat (first | refine blk_drewN ?_ _ | refine blk_drew ?_ | refine blk_alloc ?_ _)); refine blk_put (cs := #[.string t105, .int .u64 t106, .int .u64 0, .int .i64 0]) ?_ 2 _ rfl; (with_reducible repeat (first | refine blk_drewN ?_ _ | refine blk_drew ?_ | refine blk_alloc ?_ _)); refine blk_put (cs := #[.string t105, .int .u64 0, .int .u64 0, .int .i64 0]) ?_ 1 _ rfl; (with_reducible repeat (first | refine blk_drewN ?_ _ | refine blk_drew ?_ | refine blk_alloc ?_ _)); refine blk_put (cs := #[.string (⟨#[]⟩ : ByteArray), .int .u64 0, .int .u64 0, .int .i64 0]) ?_ 0 _ rfl; (with_reducible repeat (first | refine blk_drewN ?_ _ | refine blk_drew ?_ | refine blk_alloc ?_ _)); exact BK110.out) hb); have n3_ := aM' (below_step (by repeat (first | (with_reducible first | exact HB.out | apply below_alloc | apply pw_below_drewN | apply below_drew1 | refine below_set ?_ GE101.out | refine below_set ?_ GE102.out | refine below_set ?_ GE110.out) | exact HB.out)) hb); clear BK101; clear BK102; clear BK110; clear HB; have BK101 := n0_; have BK102 := n1_; have BK110 := n2_; have HB := n3_; clear n0_ n1_ n2_ n3_; (try clear hb); (try clear hb2); (try clear hk); (try clear hi)))
        go_meet
        case rel => exact ⟨_, (true), (by first | rfl | (simp; done) | (simp [*]; done)), H', ⟨by have := HJ5.out; first | omega | exact Nat.le_refl _⟩, ⟨by (with_reducible repeat (first | refine blk_drewN ?_ _ | refine blk_drew ?_ | refine blk_alloc ?_ _)); exact BK101.out⟩, ⟨by (with_reducible repeat (first | refine blk_drewN ?_ _ | refine blk_drew ?_ | refine blk_alloc ?_ _)); exact BK102.out⟩, ⟨by (with_reducible repeat (first | refine blk_drewN ?_ _ | refine blk_drew ?_ | refine blk_alloc ?_ _)); exact BK110.out⟩, ⟨by repeat (first | (with_reducible first | exact HB.out | apply below_alloc | apply pw_below_drewN | apply below_drew1 | refine below_set ?_ GE101.out | refine below_set ?_ GE102.out | refine below_set ?_ GE110.out) | exact HB.out)⟩⟩
      ·
       rw [if_neg c29] at H
       have c29b0 : (t109 == 0) = false := beq_eq_false_iff_ne.mpr c29
       have c29b1 : (t109 != 0) = true := bne_iff_ne.mpr c29
       (first | rw [c29b0] | (simp only [i64_w, i32_w]; rw [c29b0]) | skip)
       have H' := aM' H
       clear H
       go_wp2
       go_meet
       case rel => exact ⟨_, (false), (by first | rfl | (simp; done) | (simp [*]; done)), H', ⟨by have := HJ5.out; first | omega | exact Nat.le_refl _⟩, ⟨by (with_reducible repeat (first | refine blk_drewN ?_ _ | refine blk_drew ?_ | refine blk_alloc ?_ _)); refine blk_far ?_ NB101_110.out _; (with_reducible repeat (first | refine blk_drewN ?_ _ | refine blk_drew ?_ | refine blk_alloc ?_ _)); refine blk_far ?_ NB101_110.out _; (with_reducible repeat (first | refine blk_drewN ?_ _ | refine blk_drew ?_ | refine blk_alloc ?_ _)); refine blk_far ?_ NB101_110.out _; (with_reducible repeat (first | refine blk_drewN ?_ _ | refine blk_drew ?_ | refine blk_alloc ?_ _)); refine blk_far ?_ NB101_110.out _; (with_reducible repeat (first | refine blk_drewN ?_ _ | refine blk_drew ?_ | refine blk_alloc ?_ _)); exact BK101.out⟩, ⟨by (with_reducible repeat (first | refine blk_drewN ?_ _ | refine blk_drew ?_ | refine blk_alloc ?_ _)); refine blk_far ?_ NB102_110.out _; (with_reducible repeat (first | refine blk_drewN ?_ _ | refine blk_drew ?_ | refine blk_alloc ?_ _)); refine blk_far ?_ NB102_110.out _; (with_reducible repeat (first | refine blk_drewN ?_ _ | refine blk_drew ?_ | refine blk_alloc ?_ _)); refine blk_far ?_ NB102_110.out _; (with_reducible repeat (first | refine blk_drewN ?_ _ | refine blk_drew ?_ | refine blk_alloc ?_ _)); refine blk_far ?_ NB102_110.out _; (with_reducible repeat (first | refine blk_drewN ?_ _ | refine blk_drew ?_ | refine blk_alloc ?_ _)); exact BK102.out⟩, ⟨by (with_reducible repeat (first | refine blk_drewN ?_ _ | refine blk_drew ?_ | refine blk_alloc ?_ _)); refine blk_put (cs := #[.string t105, .int .u64 t106, .int .u64 t107, .int .i64 0]) ?_ 3 _ rfl; (with_reducible repeat (first | refine blk_drewN ?_ _ | refine blk_drew ?_ | refine blk_alloc ?_ _)); refine blk_put (cs := #[.string t105, .int .u64 t106, .int .u64 0, .int .i64 0]) ?_ 2 _ rfl; (with_reducible repeat (first | refine blk_drewN ?_ _ | refine blk_drew ?_ | refine blk_alloc ?_ _)); refine blk_put (cs := #[.string t105, .int .u64 0, .int .u64 0, .int .i64 0]) ?_ 1 _ rfl; (with_reducible repeat (first | refine blk_drewN ?_ _ | refine blk_drew ?_ | refine blk_alloc ?_ _)); refine blk_put (cs := #[.string (⟨#[]⟩ : ByteArray), .int .u64 0, .int .u64 0, .int .i64 0]) ?_ 0 _ rfl; (with_reducible repeat (first | refine blk_drewN ?_ _ | refine blk_drew ?_ | refine blk_alloc ?_ _)); exact BK110.out⟩, ⟨by repeat (first | (with_reducible first | exact HB.out | apply below_alloc | apply pw_below_drewN | apply below_drew1 | refine below_set ?_ GE101.out | refine below_set ?_ GE102.out | refine below_set ?_ GE110.out) | exact HB.out)⟩⟩
     case rest =>
      clear HC21
      try clear c1
      try clear c2
      try clear p2
      try clear c3
      try clear c4
      try clear c5
      try clear c6
      try clear c9
      try clear c11
      try clear c12
      try clear c15
      try clear c19
      try clear c22
      try clear c26
      try clear c27
      try clear c28
      try clear c29
      try clear c29b0
      try clear c29b1
      try clear c31
      try clear c31b0
      try clear c31b1
      try clear c33
      try clear c33b0
      try clear c33b1
      try clear c34
      try clear c34b0
      try clear c34b1
      try clear c35
      try clear c36
      try clear c38
      try clear c45
      try clear c46
      try clear c48
      try clear c54
      try clear c55
      try clear c57
      try clear c62
      try clear c63
      try clear c65
      try clear hcz13_0
      try clear hcz13_1
      try clear hcz13_2
      try clear hcz13_3
      try clear hcz13_4
      try clear hcz13_5
      try clear hcz13_6
      try clear hcz16_0
      try clear hcz16_1
      try clear hcz16_2
      try clear hcz16_3
      try clear hcz16_4
      try clear hcz16_5
      try clear hcz16_6
      try clear hcz18_0
      try clear hcz18_1
      try clear hcz18_2
      try clear hcz18_3
      try clear hcz23_0
      try clear hcz23_1
      try clear hcz23_2
      try clear hcz23_3
      try clear hcz23_4
      try clear hcz23_5
      try clear hcz23_6
      try clear hcz28_0
      try clear hcz28_1
      try clear hcz28_2
      try clear hcz28_3
      try clear hcz37_0
      try clear hcz37_1
      try clear hcz37_2
      try clear hcz37_3
      try clear hcz39_0
      try clear hcz39_1
      try clear hcz39_2
      try clear hcz39_3
      try clear hcz39_4
      try clear hcz39_5
      try clear hcz39_6
      try clear hcz41_0
      try clear hcz41_1
      try clear hcz41_2
      try clear hcz41_3
      try clear hcz43_0
      try clear hcz43_1
      try clear hcz43_2
      try clear hcz43_3
      try clear hcz44_0
      try clear hcz44_1
      try clear hcz44_2
      try clear hcz44_3
      try clear hcz44_4
      try clear hcz44_5
      try clear hcz44_6
      try clear hcz47_0
      try clear hcz47_1
      try clear hcz47_2
      try clear hcz47_3
      try clear hcz49_0
      try clear hcz49_1
      try clear hcz49_2
      try clear hcz49_3
      try clear hcz49_4
      try clear hcz49_5
      try clear hcz49_6
      try clear hcz51_0
      try clear hcz51_1
      try clear hcz51_2
      try clear hcz51_3
      try clear hcz53_0
      try clear hcz53_1
      try clear hcz53_2
      try clear hcz53_3
      try clear hcz56_0
      try clear hcz56_1
      try clear hcz56_2
      try clear hcz56_3
      try clear hcz58_0
      try clear hcz58_1
      try clear hcz58_2
      try clear hcz58_3
      try clear hcz58_4
      try clear hcz58_5
      try clear hcz58_6
      try clear hcz60_0
      try clear hcz60_1
      try clear hcz60_2
      try clear hcz60_3
      try clear hcz64_0
      try clear hcz64_1
      try clear hcz64_2
      try clear hcz64_3
      try clear hcz66_0
      try clear hcz66_1
      try clear hcz66_2
      try clear hcz66_3
      try clear hcz66_4
      try clear hcz66_5
      try clear hcz66_6
      try clear hfz13_0
      try clear hfz13_1
      try clear hfz13_2
      try clear hfz13_3
      try clear hfz13_4
      try clear hfz13_5
      try clear hfz13_6
      try clear hfz16_0
      try clear hfz16_1
      try clear hfz16_2
      try clear hfz16_3
      try clear hfz16_4
      try clear hfz16_5
      try clear hfz16_6
      try clear hfz18_0
      try clear hfz18_1
      try clear hfz18_2
      try clear hfz18_3
      try clear hfz23_0
      try clear hfz23_1
      try clear hfz23_2
      try clear hfz23_3
      try clear hfz23_4
      try clear hfz23_5
      try clear hfz23_6
      try clear hfz28_0
      try clear hfz28_1
      try clear hfz28_2
      try clear hfz28_3
      try clear hfz37_0
      try clear hfz37_1
      try clear hfz37_2
      try clear hfz37_3
      try clear hfz39_0
      try clear hfz39_1
      try clear hfz39_2
      try clear hfz39_3
      try clear hfz39_4
      try clear hfz39_5
      try clear hfz39_6
      try clear hfz41_0
      try clear hfz41_1
      try clear hfz41_2
      try clear hfz41_3
      try clear hfz43_0
      try clear hfz43_1
      try clear hfz43_2
      try clear hfz43_3
      try clear hfz44_0
      try clear hfz44_1
      try clear hfz44_2
      try clear hfz44_3
      try clear hfz44_4
      try clear hfz44_5
      try clear hfz44_6
      try clear hfz47_0
      try clear hfz47_1
      try clear hfz47_2
      try clear hfz47_3
      try clear hfz49_0
      try clear hfz49_1
      try clear hfz49_2
      try clear hfz49_3
      try clear hfz49_4
      try clear hfz49_5
      try clear hfz49_6
      try clear hfz51_0
      try clear hfz51_1
      try clear hfz51_2
      try clear hfz51_3
      try clear hfz53_0
      try clear hfz53_1
      try clear hfz53_2
      try clear hfz53_3
      try clear hfz56_0
      try clear hfz56_1
      try clear hfz56_2
      try clear hfz56_3
      try clear hfz58_0
      try clear hfz58_1
      try clear hfz58_2
      try clear hfz58_3
      try clear hfz58_4
      try clear hfz58_5
      try clear hfz58_6
      try clear hfz60_0
      try clear hfz60_1
      try clear hfz60_2
      try clear hfz60_3
      try clear hfz64_0
      try clear hfz64_1
      try clear hfz64_2
      try clear hfz64_3
      try clear hfz66_0
      try clear hfz66_1
      try clear hfz66_2
      try clear hfz66_3
      try clear hfz66_4
      try clear hfz66_5
      try clear hfz66_6
      try clear p2
      obtain ⟨kq, x56_20, rfl, HA, HJ20, BK101, BK102, BK110, HB⟩ := hcut
      cases kq with
      | zero => exact absurd HA.out (by simp [paymasterlaw17_VerifyOne.j1])
      | succ kj20 =>
       have H := HA.out
       clear HA
       simp only [paymasterlaw17_VerifyOne.j1] at H
       by_cases c68 : x56_20 = true
       ·
        subst c68
        have H1 : (some false) = some r := by rw [if_pos rfl] at H; exact H
        clear H
        have H := H1
        clear H1
        obtain rfl := Option.some.inj H
        go_wp2
        go_ret
        exact ⟨by first | rfl | (simp [errW_none, errW_some] <;> rfl) | (simp [*, errW_none, errW_some] <;> rfl), by repeat (first | (with_reducible first | exact HB.out | apply below_alloc | apply pw_below_drewN | apply below_drew1 | refine below_set ?_ GE101.out | refine below_set ?_ GE102.out | refine below_set ?_ GE110.out) | exact HB.out)⟩
       ·
        replace c68 := Bool.eq_false_iff.mpr c68
        subst c68
        have H1 : (if t109 = 0 then (paymasterlaw17_VerifyOne.j2 kj20 false a1_0 a1_1 a1_2 a1_3 a1_4 a1_5 l1_6 a2_0 a2_1 a2_2 a2_3) else (paymasterlaw17_VerifyOne.j2 kj20 (!(t105.toList == ([] : List UInt8)) || ((!(t106 == 0) || (!(t107 == 0))) || (!(t108 == 0)))) a1_0 a1_1 a1_2 a1_3 a1_4 a1_5 l1_6 a2_0 a2_1 a2_2 a2_3)) = some r := by rw [if_neg (show ¬ (false = true) by decide)] at H; exact H
        clear H
        have H := H1
        clear H1
        have HC69 := aM' H
        clear H
        go_upto_region 8 with (fail)
        go_cut [63] (fun v63 wc => ∃ (kq : Nat) (x63_68 : Bool), v63 = .bool x63_68 ∧ Aside0 (paymasterlaw17_VerifyOne.j2 kq x63_68 a1_0 a1_1 a1_2 a1_3 a1_4 a1_5 l1_6 a2_0 a2_1 a2_2 a2_3 = some r) ∧ Aside0 (kq ≤ kj20) ∧ Aside0 (wc.heap[gb101]? = some (.cells #[.bool a1_0, .string a1_1, .string a1_2, .int .u64 a1_3, .int .u64 a1_4, .int .u64 a1_5, (.slice A1_6 l1_6.length c1_6)] 61 (0, 0))) ∧ Aside0 (wc.heap[gb102]? = some (.cells #[.string a2_0, .int .u64 a2_1, .int .u64 a2_2, .int .i64 a2_3] 63 (0, 0))) ∧ Aside0 (wc.heap[gb110]? = some (.cells #[.string t105, .int .u64 t106, .int .u64 t107, .int .i64 t108] 63 (0, 0))) ∧ Aside0 (Below w.heap.size w wc))
        case first =>
         have H := HC69.out
         clear HC69
         by_cases c70 : t109 = 0
         ·
          rw [if_pos c70] at H
          have c70b0 : (t109 == 0) = true := beq_iff_eq.mpr c70
          have c70b1 : (t109 != 0) = false := bne_eq_false_iff_eq.mpr c70
          clear c70
          (first | rw [c70b0] | (simp only [i64_w, i32_w]; rw [c70b0]) | skip)
          have H' := aM' H
          clear H
          go_wp2
          go_meet
          case rel => exact ⟨_, (false), (by first | rfl | (simp; done) | (simp [*]; done)), H', ⟨by have := HJ5.out; have := HJ20.out; first | omega | exact Nat.le_refl _⟩, ⟨by (with_reducible repeat (first | refine blk_drewN ?_ _ | refine blk_drew ?_ | refine blk_alloc ?_ _)); exact BK101.out⟩, ⟨by (with_reducible repeat (first | refine blk_drewN ?_ _ | refine blk_drew ?_ | refine blk_alloc ?_ _)); exact BK102.out⟩, ⟨by (with_reducible repeat (first | refine blk_drewN ?_ _ | refine blk_drew ?_ | refine blk_alloc ?_ _)); exact BK110.out⟩, ⟨by repeat (first | (with_reducible first | exact HB.out | apply below_alloc | apply pw_below_drewN | apply below_drew1 | refine below_set ?_ GE101.out | refine below_set ?_ GE102.out | refine below_set ?_ GE110.out) | exact HB.out)⟩⟩
         ·
          rw [if_neg c70] at H
          have c70b0 : (t109 == 0) = false := beq_eq_false_iff_ne.mpr c70
          have c70b1 : (t109 != 0) = true := bne_iff_ne.mpr c70
          (first | rw [c70b0] | (simp only [i64_w, i32_w]; rw [c70b0]) | skip)
          have H' := aM' H
          clear H
          have hnb71 := NB110_101.out
          have hnc71 := NB101_110.out
          have hnb72 := NB110_102.out
          have hnc72 := NB102_110.out
          have hcz73_0 : wc.cell? ⟨gb110, 0, none⟩ = some (.string t105) := (blk_cell BK110.out 0).trans rfl
          have hcz73_1 : wc.cell? ⟨gb110, 1, none⟩ = some (.int .u64 t106) := (blk_cell BK110.out 1).trans rfl
          have hcz73_2 : wc.cell? ⟨gb110, 2, none⟩ = some (.int .u64 t107) := (blk_cell BK110.out 2).trans rfl
          have hcz73_3 : wc.cell? ⟨gb110, 3, none⟩ = some (.int .i64 t108) := (blk_cell BK110.out 3).trans rfl
          have hfz73_0 := blk_frozen BK110.out 0
          have hfz73_1 := blk_frozen BK110.out 1
          have hfz73_2 := blk_frozen BK110.out 2
          have hfz73_3 := blk_frozen BK110.out 3
          go_wp2
          go_meet
          case rel => exact ⟨_, ((!(t105.toList == ([] : List UInt8)) || ((!(t106 == 0) || (!(t107 == 0))) || (!(t108 == 0))))), (by first | rfl | (simp; done) | (simp [*]; done)), H', ⟨by have := HJ5.out; have := HJ20.out; first | omega | exact Nat.le_refl _⟩, ⟨by (with_reducible repeat (first | refine blk_drewN ?_ _ | refine blk_drew ?_ | refine blk_alloc ?_ _)); exact BK101.out⟩, ⟨by (with_reducible repeat (first | refine blk_drewN ?_ _ | refine blk_drew ?_ | refine blk_alloc ?_ _)); exact BK102.out⟩, ⟨by (with_reducible repeat (first | refine blk_drewN ?_ _ | refine blk_drew ?_ | refine blk_alloc ?_ _)); exact BK110.out⟩, ⟨by repeat (first | (with_reducible first | exact HB.out | apply below_alloc | apply pw_below_drewN | apply below_drew1 | refine below_set ?_ GE101.out | refine below_set ?_ GE102.out | refine below_set ?_ GE110.out) | exact HB.out)⟩⟩
        case rest =>
         clear HC69
         try clear c1
         try clear c2
         try clear p2
         try clear c3
         try clear c4
         try clear c5
         try clear c6
         try clear c7
         try clear c9
         try clear c11
         try clear c12
         try clear c15
         try clear c19
         try clear c22
         try clear c26
         try clear c27
         try clear c28
         try clear c29
         try clear c29b0
         try clear c29b1
         try clear c31
         try clear c31b0
         try clear c31b1
         try clear c33
         try clear c33b0
         try clear c33b1
         try clear c34
         try clear c34b0
         try clear c34b1
         try clear c35
         try clear c36
         try clear c38
         try clear c45
         try clear c46
         try clear c48
         try clear c54
         try clear c55
         try clear c57
         try clear c62
         try clear c63
         try clear c65
         try clear c68
         try clear c70
         try clear c70b0
         try clear c70b1
         try clear c71
         try clear c72
         try clear hcz13_0
         try clear hcz13_1
         try clear hcz13_2
         try clear hcz13_3
         try clear hcz13_4
         try clear hcz13_5
         try clear hcz13_6
         try clear hcz16_0
         try clear hcz16_1
         try clear hcz16_2
         try clear hcz16_3
         try clear hcz16_4
         try clear hcz16_5
         try clear hcz16_6
         try clear hcz18_0
         try clear hcz18_1
         try clear hcz18_2
         try clear hcz18_3
         try clear hcz23_0
         try clear hcz23_1
         try clear hcz23_2
         try clear hcz23_3
         try clear hcz23_4
         try clear hcz23_5
         try clear hcz23_6
         try clear hcz28_0
         try clear hcz28_1
         try clear hcz28_2
         try clear hcz28_3
         try clear hcz37_0
         try clear hcz37_1
         try clear hcz37_2
         try clear hcz37_3
         try clear hcz39_0
         try clear hcz39_1
         try clear hcz39_2
         try clear hcz39_3
         try clear hcz39_4
         try clear hcz39_5
         try clear hcz39_6
         try clear hcz41_0
         try clear hcz41_1
         try clear hcz41_2
         try clear hcz41_3
         try clear hcz43_0
         try clear hcz43_1
         try clear hcz43_2
         try clear hcz43_3
         try clear hcz44_0
         try clear hcz44_1
         try clear hcz44_2
         try clear hcz44_3
         try clear hcz44_4
         try clear hcz44_5
         try clear hcz44_6
         try clear hcz47_0
         try clear hcz47_1
         try clear hcz47_2
         try clear hcz47_3
         try clear hcz49_0
         try clear hcz49_1
         try clear hcz49_2
         try clear hcz49_3
         try clear hcz49_4
         try clear hcz49_5
         try clear hcz49_6
         try clear hcz51_0
         try clear hcz51_1
         try clear hcz51_2
         try clear hcz51_3
         try clear hcz53_0
         try clear hcz53_1
         try clear hcz53_2
         try clear hcz53_3
         try clear hcz56_0
         try clear hcz56_1
         try clear hcz56_2
         try clear hcz56_3
         try clear hcz58_0
         try clear hcz58_1
         try clear hcz58_2
         try clear hcz58_3
         try clear hcz58_4
         try clear hcz58_5
         try clear hcz58_6
         try clear hcz60_0
         try clear hcz60_1
         try clear hcz60_2
         try clear hcz60_3
         try clear hcz64_0
         try clear hcz64_1
         try clear hcz64_2
         try clear hcz64_3
         try clear hcz66_0
         try clear hcz66_1
         try clear hcz66_2
         try clear hcz66_3
         try clear hcz66_4
         try clear hcz66_5
         try clear hcz66_6
         try clear hcz73_0
         try clear hcz73_1
         try clear hcz73_2
         try clear hcz73_3
         try clear hfz13_0
         try clear hfz13_1
         try clear hfz13_2
         try clear hfz13_3
         try clear hfz13_4
         try clear hfz13_5
         try clear hfz13_6
         try clear hfz16_0
         try clear hfz16_1
         try clear hfz16_2
         try clear hfz16_3
         try clear hfz16_4
         try clear hfz16_5
         try clear hfz16_6
         try clear hfz18_0
         try clear hfz18_1
         try clear hfz18_2
         try clear hfz18_3
         try clear hfz23_0
         try clear hfz23_1
         try clear hfz23_2
         try clear hfz23_3
         try clear hfz23_4
         try clear hfz23_5
         try clear hfz23_6
         try clear hfz28_0
         try clear hfz28_1
         try clear hfz28_2
         try clear hfz28_3
         try clear hfz37_0
         try clear hfz37_1
         try clear hfz37_2
         try clear hfz37_3
         try clear hfz39_0
         try clear hfz39_1
         try clear hfz39_2
         try clear hfz39_3
         try clear hfz39_4
         try clear hfz39_5
         try clear hfz39_6
         try clear hfz41_0
         try clear hfz41_1
         try clear hfz41_2
         try clear hfz41_3
         try clear hfz43_0
         try clear hfz43_1
         try clear hfz43_2
         try clear hfz43_3
         try clear hfz44_0
         try clear hfz44_1
         try clear hfz44_2
         try clear hfz44_3
         try clear hfz44_4
         try clear hfz44_5
         try clear hfz44_6
         try clear hfz47_0
         try clear hfz47_1
         try clear hfz47_2
         try clear hfz47_3
         try clear hfz49_0
         try clear hfz49_1
         try clear hfz49_2
         try clear hfz49_3
         try clear hfz49_4
         try clear hfz49_5
         try clear hfz49_6
         try clear hfz51_0
         try clear hfz51_1
         try clear hfz51_2
         try clear hfz51_3
         try clear hfz53_0
         try clear hfz53_1
         try clear hfz53_2
         try clear hfz53_3
         try clear hfz56_0
         try clear hfz56_1
         try clear hfz56_2
         try clear hfz56_3
         try clear hfz58_0
         try clear hfz58_1
         try clear hfz58_2
         try clear hfz58_3
         try clear hfz58_4
         try clear hfz58_5
         try clear hfz58_6
         try clear hfz60_0
         try clear hfz60_1
         try clear hfz60_2
         try clear hfz60_3
         try clear hfz64_0
         try clear hfz64_1
         try clear hfz64_2
         try clear hfz64_3
         try clear hfz66_0
         try clear hfz66_1
         try clear hfz66_2
         try clear hfz66_3
         try clear hfz66_4
         try clear hfz66_5
         try clear hfz66_6
         try clear hfz73_0
         try clear hfz73_1
         try clear hfz73_2
         try clear hfz73_3
         try clear p2
         obtain ⟨kq, x63_68, rfl, HA, HJ68, BK101, BK102, BK110, HB⟩ := hcut
         cases kq with
         | zero => exact absurd HA.out (by simp [paymasterlaw17_VerifyOne.j2])
         | succ kj68 =>
          have H := HA.out
          clear HA
          simp only [paymasterlaw17_VerifyOne.j2] at H
          by_cases c74 : x63_68 = true
          ·
           subst c74
           have H1 : (some false) = some r := by rw [if_pos rfl] at H; exact H
           clear H
           have H := H1
           clear H1
           obtain rfl := Option.some.inj H
           go_wp2
           go_ret
           exact ⟨by first | rfl | (simp [errW_none, errW_some] <;> rfl) | (simp [*, errW_none, errW_some] <;> rfl), by repeat (first | (with_reducible first | exact HB.out | apply below_alloc | apply pw_below_drewN | apply below_drew1 | refine below_set ?_ GE101.out | refine below_set ?_ GE102.out | refine below_set ?_ GE110.out) | exact HB.out)⟩
          ·
           replace c74 := Bool.eq_false_iff.mpr c74
           subst c74
           have H1 : ((verify_Check.f a2_0 a2_1 a2_2 a2_3 a1_0 a1_1 a1_2 a1_3 a1_4 a1_5 l1_6).bind fun t113 => ((verify_Up.f (a2_0.size : Int) a1_0 a1_1 a1_2 a1_3 a1_4 a1_5 l1_6).bind fun bt114 => (if bt114.2.2.2.2 = 0 then (if (bt114.1.toList == a2_0.toList && ((bt114.2.1 == a2_1 && (bt114.2.2.1 == a2_2)) && (bt114.2.2.2.1 == a2_3))) = true then (some ((t113 == 0) == (a2_3 == (l1_6.length : Int)))) else (some ((t113 == 0) == false))) else (some ((t113 == 0) == false))))) = some r := by rw [if_neg (show ¬ (false = true) by decide)] at H; exact H
           clear H
           have H := H1
           clear H1
           replace H := Option.bind_eq_some_iff.mp H
           obtain ⟨t113, A750, H⟩ := H
           replace H : ((verify_Up.f (a2_0.size : Int) a1_0 a1_1 a1_2 a1_3 a1_4 a1_5 l1_6).bind fun bt114 => (if bt114.2.2.2.2 = 0 then (if (bt114.1.toList == a2_0.toList && ((bt114.2.1 == a2_1 && (bt114.2.2.1 == a2_2)) && (bt114.2.2.2.1 == a2_3))) = true then (some ((t113 == 0) == (a2_3 == (l1_6.length : Int)))) else (some ((t113 == 0) == false))) else (some ((t113 == 0) == false)))) = some r := H
           have A75 := aM' A750
           clear A750
           replace H := Option.bind_eq_some_iff.mp H
           obtain ⟨⟨t114, t115, t116, t117, t118⟩, A760, H⟩ := H
           replace H : (if t118 = 0 then (if (t114.toList == a2_0.toList && ((t115 == a2_1 && (t116 == a2_2)) && (t117 == a2_3))) = true then (some ((t113 == 0) == (a2_3 == (l1_6.length : Int)))) else (some ((t113 == 0) == false))) else (some ((t113 == 0) == false))) = some r := H
           have A76 := aM' A760
           clear A760
           by_cases c77 : t118 = 0
           ·
            rw [if_pos c77] at H
            have c77b0 : (t118 == 0) = true := beq_iff_eq.mpr c77
            have c77b1 : (t118 != 0) = false := bne_eq_false_iff_eq.mpr c77
            clear c77
            by_cases c78 : (t114.toList == a2_0.toList && ((t115 == a2_1 && (t116 == a2_2)) && (t117 == a2_3))) = true
            ·
             rw [if_pos c78] at H
             have c78b0 : (t114.toList == a2_0.toList && ((t115 == a2_1 && (t116 == a2_2)) && (t117 == a2_3))) = true := c78
             (try (have c78b1 : decide (t114.toList = a2_0.toList && ((t115 == a2_1 && (t116 == a2_2)) && (t117 == a2_3))) = true := by simpa using c78))
             (try (have c78b2 : (t114.toList == a2_0.toList && ((t115 == a2_1 && (t116 == a2_2)) && (t117 == a2_3))) = true := by simpa using c78))
             clear c78
             obtain rfl := Option.some.inj H
             have hnb79 := NB102_101.out
             have hnc79 := NB101_102.out
             have hnb80 := NB102_110.out
             have hnc80 := NB110_102.out
             have hcz81_0 : wc.cell? ⟨gb102, 0, none⟩ = some (.string a2_0) := (blk_cell BK102.out 0).trans rfl
             have hcz81_1 : wc.cell? ⟨gb102, 1, none⟩ = some (.int .u64 a2_1) := (blk_cell BK102.out 1).trans rfl
             have hcz81_2 : wc.cell? ⟨gb102, 2, none⟩ = some (.int .u64 a2_2) := (blk_cell BK102.out 2).trans rfl
             have hcz81_3 : wc.cell? ⟨gb102, 3, none⟩ = some (.int .i64 a2_3) := (blk_cell BK102.out 3).trans rfl
             have hfz81_0 := blk_frozen BK102.out 0
             have hfz81_1 := blk_frozen BK102.out 1
             have hfz81_2 := blk_frozen BK102.out 2
             have hfz81_3 := blk_frozen BK102.out 3
             have hnb82 := NB101_110.out
             have hnc82 := NB110_101.out
             have hcz83_0 : wc.cell? ⟨gb101, 0, none⟩ = some (.bool a1_0) := (blk_cell BK101.out 0).trans rfl
             have hcz83_1 : wc.cell? ⟨gb101, 1, none⟩ = some (.string a1_1) := (blk_cell BK101.out 1).trans rfl
             have hcz83_2 : wc.cell? ⟨gb101, 2, none⟩ = some (.string a1_2) := (blk_cell BK101.out 2).trans rfl
             have hcz83_3 : wc.cell? ⟨gb101, 3, none⟩ = some (.int .u64 a1_3) := (blk_cell BK101.out 3).trans rfl
             have hcz83_4 : wc.cell? ⟨gb101, 4, none⟩ = some (.int .u64 a1_4) := (blk_cell BK101.out 4).trans rfl
             have hcz83_5 : wc.cell? ⟨gb101, 5, none⟩ = some (.int .u64 a1_5) := (blk_cell BK101.out 5).trans rfl
             have hcz83_6 : wc.cell? ⟨gb101, 6, none⟩ = some (.slice A1_6 l1_6.length c1_6) := (blk_cell BK101.out 6).trans rfl
             have hfz83_0 := blk_frozen BK101.out 0
             have hfz83_1 := blk_frozen BK101.out 1
             have hfz83_2 := blk_frozen BK101.out 2
             have hfz83_3 := blk_frozen BK101.out 3
             have hfz83_4 := blk_frozen BK101.out 4
             have hfz83_5 := blk_frozen BK101.out 5
             have hfz83_6 := blk_frozen BK101.out 6
             go_wp2_with (first | ((with_reducible refine gate_callee (f := 29) rfl ?_); refine goesL_ (some 66) rfl rfl Tryd.func29 (by kernel_rfl) rfl #[.agg #[.string a2_0, .int .u64 a2_1, .int .u64 a2_2, .int .i64 a2_3], .agg #[.bool a1_0, .string a1_1, .string a1_2, .int .u64 a1_3, .int .u64 a1_4, .int .u64 a1_5, .slice A1_6 l1_6.length c1_6]] rfl (by (try simp only [List.map_toArray, List.map_cons, List.map_nil]); first | done | rfl | (simp only [List.length_drop, List.length_take]; rfl)) ?_; (with_reducible refine (verify_Check.calls a2_0 a2_1 a2_2 a2_3 a1_0 a1_1 a1_2 a1_3 a1_4 a1_5 _ _ l1_6 t113 _ ?side1 ?side2 ?side3 A75.out).mono ?_); (case side1 => exact LaidT.below HLD.out (by repeat (first | (with_reducible first | exact HB.out | apply below_alloc | apply pw_below_drewN | apply below_drew1 | refine below_set ?_ GE101.out | refine below_set ?_ GE102.out | refine below_set ?_ GE110.out) | exact HB.out))); (case side2 => repeat (first | exact (Kd.C_below HR1_6.out HB.out) | (with_reducible refine Kd.C_alloc ?_ _) | (with_reducible refine Kd.C_drewN ?_ _) | (with_reducible refine Kd.C_drew ?_))); (case side3 => exact HC1_6.out); rintro e w84 ⟨rfl, hb⟩; refine ⟨_, rfl, ?_⟩; have n0_ := aM' (blk_below (g := gb101) (o := .cells #[.bool a1_0, .string a1_1, .string a1_2, .int .u64 a1_3, .int .u64 a1_4, .int .u64 a1_5, .slice A1_6 l1_6.length c1_6] 61 (0, 0)) (by (with_reducible repeat (first | refine blk_drewN ?_ _ | refine blk_drew ?_ | refine blk_alloc ?_ _)); exact BK101.out) hb); have n1_ := aM' (blk_below (g := gb102) (o := .cells #[.string a2_0, .int .u64 a2_1, .int .u64 a2_2, .int .i64 a2_3] 63 (0, 0)) (by (with_reducible repeat (first | refine blk_drewN ?_ _ | refine blk_drew ?_ | refine blk_alloc ?_ _)); exact BK102.out) hb); have n2_ := aM' (blk_below (g := gb110) (o := .cells #[.string t105, .int .u64 t106, .int .u64 t107, .int .i64 t108] 63 (0, 0)) (by (with_reducible repeat (first | refine blk_drewN ?_ _ | refine blk_drew ?_ | refine blk_alloc ?_ _)); exact BK110.out) hb); have n3_ := aM' (below_step (by repeat (first | (with_reducible first | exact HB.out | apply below_alloc | apply pw_below_drewN | apply below_drew1 | refine below_set ?_ GE101.out | refine below_set ?_ GE102.out | refine below_set ?_ GE110.out) | exact HB.out)) hb); clear BK101; clear BK102; clear BK110; clear HB; have BK101 := n0_; have BK102 := n1_; have BK110 := n2_; have HB := n3_; clear n0_ n1_ n2_ n3_; (try clear hb); (try clear hb2); (try clear hk); (try clear hi); have hcz85_0 : w84.cell? ⟨gb102, 0, none⟩ = some (.string a2_0) := (blk_cell BK102.out 0).trans rfl; have hcz85_1 : w84.cell? ⟨gb102, 1, none⟩ = some (.int .u64 a2_1) := (blk_cell BK102.out 1).trans rfl; have hcz85_2 : w84.cell? ⟨gb102, 2, none⟩ = some (.int .u64 a2_2) := (blk_cell BK102.out 2).trans rfl; have hcz85_3 : w84.cell? ⟨gb102, 3, none⟩ = some (.int .i64 a2_3) := (blk_cell BK102.out 3).trans rfl; have hfz85_0 := blk_frozen BK102.out 0; have hfz85_1 := blk_frozen BK102.out 1; have hfz85_2 := blk_frozen BK102.out 2; have hfz85_3 := blk_frozen BK102.out 3; have hcz86_0 : w84.cell? ⟨gb101, 0, none⟩ = some (.bool a1_0) := (blk_cell BK101.out 0).trans rfl; have hcz86_1 : w84.cell? ⟨gb101, 1, none⟩ = some (.string a1_1) := (blk_cell BK101.out 1).trans rfl; have hcz86_2 : w84.cell? ⟨gb101, 2, none⟩ = some (.string a1_2) := (blk_cell BK101.out 2).trans rfl; have hcz86_3 : w84.cell? ⟨gb101, 3, none⟩ = some (.int .u64 a1_3) := (blk_cell BK101.out 3).trans rfl; have hcz86_4 : w84.cell? ⟨gb101, 4, none⟩ = some (.int .u64 a1_4) := (blk_cell BK101.out 4).trans rfl; have hcz86_5 : w84.cell? ⟨gb101, 5, none⟩ = some (.int .u64 a1_5) := (blk_cell BK101.out 5).trans rfl; have hcz86_6 : w84.cell? ⟨gb101, 6, none⟩ = some (.slice A1_6 l1_6.length c1_6) := (blk_cell BK101.out 6).trans rfl; have hfz86_0 := blk_frozen BK101.out 0; have hfz86_1 := blk_frozen BK101.out 1; have hfz86_2 := blk_frozen BK101.out 2; have hfz86_3 := blk_frozen BK101.out 3; have hfz86_4 := blk_frozen BK101.out 4; have hfz86_5 := blk_frozen BK101.out 5; have hfz86_6 := blk_frozen BK101.out 6) | ((with_reducible refine gate_callee (f := 28) rfl ?_); refine goesL_ (some 72) rfl rfl Tryd.func28 (by kernel_rfl) rfl #[.int .i64 (a2_0.size : Int), .agg #[.bool a1_0, .string a1_1, .string a1_2, .int .u64 a1_3, .int .u64 a1_4, .int .u64 a1_5, .slice A1_6 l1_6.length c1_6]] rfl (by (try simp only [List.map_toArray, List.map_cons, List.map_nil]); first | done | rfl | (simp only [List.length_drop, List.length_take]; rfl)) ?_; (with_reducible refine (verify_Up.calls (a2_0.size : Int) a1_0 a1_1 a1_2 a1_3 a1_4 a1_5 _ _ l1_6 t114 t115 t116 t117 t118 _ ?side1 ?side2 ?side3 A76.out).mono ?_); (case side1 => exact LaidT.below HLD.out (by repeat (first | (with_reducible first | exact HB.out | apply below_alloc | apply pw_below_drewN | apply below_drew1 | refine below_set ?_ GE101.out | refine below_set ?_ GE102.out | refine below_set ?_ GE110.out) | exact HB.out))); (case side2 => repeat (first | exact (Kd.C_below HR1_6.out HB.out) | (with_reducible refine Kd.C_alloc ?_ _) | (with_reducible refine Kd.C_drewN ?_ _) | (with_reducible refine Kd.C_drew ?_))); (case side3 => exact HC1_6.out); rintro e w87 ⟨rfl, hb⟩; refine ⟨_, rfl, ?_⟩; have n0_ := aM' (blk_below (g := gb101) (o := .cells #[.bool a1_0, .string a1_1, .string a1_2, .int .u64 a1_3, .int .u64 a1_4, .int .u64 a1_5, .slice A1_6 l1_6.length c1_6] 61 (0, 0)) (by (with_reducible repeat (first | refine blk_drewN ?_ _ | refine blk_drew ?_ | refine blk_alloc ?_ _)); exact BK101.out) hb); have n1_ := aM' (blk_below (g := gb102) (o := .cells #[.string a2_0, .int .u64 a2_1, .int .u64 a2_2, .int .i64 a2_3] 63 (0, 0)) (by (with_reducible repeat (first | refine blk_drewN ?_ _ | refine blk_drew ?_ | refine blk_alloc ?_ _)); exact BK102.out) hb); have n2_ := aM' (blk_below (g := gb110) (o := .cells #[.string t105, .int .u64 t106, .int .u64 t107, .int .i64 t108] 63 (0, 0)) (by (with_reducible repeat (first | refine blk_drewN ?_ _ | refine blk_drew ?_ | refine blk_alloc ?_ _)); exact BK110.out) hb); have n3_ := aM' (below_step (by repeat (first | (with_reducible first | exact HB.out | apply below_alloc | apply pw_below_drewN | apply below_drew1 | refine below_set ?_ GE101.out | refine below_set ?_ GE102.out | refine below_set ?_ GE110.out) | exact HB.out)) hb); clear BK101; clear BK102; clear BK110; clear HB; have BK101 := n0_; have BK102 := n1_; have BK110 := n2_; have HB := n3_; clear n0_ n1_ n2_ n3_; (try clear hb); (try clear hb2); (try clear hk); (try clear hi)) | ((with_reducible refine gate_dst (N := 10) rfl ?_); (try (refine gate_guard (by rfl) ?_; dsimp only)); refine box_event ?hg (N := 10) ?hd (cs := #[.string (⟨#[]⟩ : ByteArray), .int .u64 0, .int .u64 0, .int .i64 0]) (t := 63) ?hr ?_; (case hd => rfl); (case hg => rfl); (case hr => first | (go_simp; done) | (go_simp; rfl)); intro gb119 hg w88 hbox hb; have n0_ := aM' (blk_below (g := gb101) (o := .cells #[.bool a1_0, .string a1_1, .string a1_2, .int .u64 a1_3, .int .u64 a1_4, .int .u64 a1_5, .slice A1_6 l1_6.length c1_6] 61 (0, 0)) (by (with_reducible repeat (first | refine blk_drewN ?_ _ | refine blk_drew ?_ | refine blk_alloc ?_ _)); exact BK101.out) hb); have n1_ := aM' (blk_below (g := gb102) (o := .cells #[.string a2_0, .int .u64 a2_1, .int .u64 a2_2, .int .i64 a2_3] 63 (0, 0)) (by (with_reducible repeat (first | refine blk_drewN ?_ _ | refine blk_drew ?_ | refine blk_alloc ?_ _)); exact BK102.out) hb); have n2_ := aM' (blk_below (g := gb110) (o := .cells #[.string t105, .int .u64 t106, .int .u64 t107, .int .i64 t108] 63 (0, 0)) (by (with_reducible repeat (first | refine blk_drewN ?_ _ | refine blk_drew ?_ | refine blk_alloc ?_ _)); exact BK110.out) hb); have n3_ := aM' (below_step (by repeat (first | (with_reducible first | exact HB.out | apply below_alloc | apply pw_below_drewN | apply below_drew1 | refine below_set ?_ GE101.out | refine below_set ?_ GE102.out | refine below_set ?_ GE110.out) | exact HB.out)) hb); have n4_ := aM' (hbox); have n5_ := aM' ((by rw [hg]; exact (below_size (by repeat (first | (with_reducible first | exact HB.out | apply below_alloc | apply pw_below_drewN | apply below_drew1 | refine below_set ?_ GE101.out | refine below_set ?_ GE102.out | refine below_set ?_ GE110.out) | exact HB.out))) : w.heap.size ≤ gb119)); have n6_ := aM' ((by rw [hg]; exact (below_size (by repeat (first | (with_reducible first | exact HB.out | apply below_alloc | apply pw_below_drewN | apply below_drew1 | refine below_set ?_ GE101.out | refine below_set ?_ GE102.out | refine below_set ?_ GE110.out) | exact HB.out))) : w.heap.size ≤ gb119)); have n7_ := aM' ((by rw [hg]; exact Nat.ne_of_lt (blk_lt (g := gb101) (o := .cells #[.bool a1_0, .string a1_1, .string a1_2, .int .u64 a1_3, .int .u64 a1_4, .int .u64 a1_5, .slice A1_6 l1_6.length c1_6] 61 (0, 0)) (by (with_reducible repeat (first | refine blk_drewN ?_ _ | refine blk_drew ?_ | refine blk_alloc ?_ _)); exact BK101.out)) : gb101 ≠ gb119)); have n8_ := aM' ((by rw [hg]; exact Nat.ne_of_gt (blk_lt (g := gb101) (o := .cells #[.bool a1_0, .string a1_1, .string a1_2, .int .u64 a1_3, .int .u64 a1_4, .int .u64 a1_5, .slice A1_6 l1_6.length c1_6] 61 (0, 0)) (by (with_reducible repeat (first | refine blk_drewN ?_ _ | refine blk_drew ?_ | refine blk_alloc ?_ _)); exact BK101.out)) : gb119 ≠ gb101)); have n9_ := aM' ((by rw [hg]; exact Nat.ne_of_lt (blk_lt (g := gb102) (o := .cells #[.string a2_0, .int .u64 a2_1, .int .u64 a2_2, .int .i64 a2_3] 63 (0, 0)) (by (with_reducible repeat (first | refine blk_drewN ?_ _ | refine blk_drew ?_ | refine blk_alloc ?_ _)); exact BK102.out)) : gb102 ≠ gb119)); have n10_ := aM' ((by rw [hg]; exact Nat.ne_of_gt (blk_lt (g := gb102) (o := .cells #[.string a2_0, .int .u64 a2_1, .int .u64 a2_2, .int .i64 a2_3] 63 (0, 0)) (by (with_reducible repeat (first | refine blk_drewN ?_ _ | refine blk_drew ?_ | refine blk_alloc ?_ _)); exact BK102.out)) : gb119 ≠ gb102)); have n11_ := aM' ((by rw [hg]; exact Nat.ne_of_lt (blk_lt (g := gb110) (o := .cells #[.string t105, .int .u64 t106, .int .u64 t107, .int .i64 t108] 63 (0, 0)) (by (with_reducible repeat (first | refine blk_drewN ?_ _ | refine blk_drew ?_ | refine blk_alloc ?_ _)); exact BK110.out)) : gb110 ≠ gb119)); have n12_ := aM' ((by rw [hg]; exact Nat.ne_of_gt (blk_lt (g := gb110) (o := .cells #[.string t105, .int .u64 t106, .int .u64 t107, .int .i64 t108] 63 (0, 0)) (by (with_reducible repeat (first | refine blk_drewN ?_ _ | refine blk_drew ?_ | refine blk_alloc ?_ _)); exact BK110.out)) : gb119 ≠ gb110)); clear BK101; clear BK102; clear BK110; clear HB; have BK101 := n0_; have BK102 := n1_; have BK110 := n2_; have HB := n3_; have BK119 := n4_; have GW119 := n5_; have GE119 := n6_; have NB101_119 := n7_; have NB119_101 := n8_; have NB102_119 := n9_; have NB119_102 := n10_; have NB110_119 := n11_; have NB119_110 := n12_; clear n0_ n1_ n2_ n3_ n4_ n5_ n6_ n7_ n8_ n9_ n10_ n11_ n12_; clear hb hbox hg; have hnb89 := NB119_101.out; have hnc89 := NB101_119.out; have hnb90 := NB119_102.out; have hnc90 := NB102_119.out; have hnb91 := NB119_110.out; have hnc91 := NB110_119.out; have hcz92_0 : w88.cell? ⟨gb119, 0, none⟩ = some (.string (⟨#[]⟩ : ByteArray)) := (blk_cell BK119.out 0).trans rfl; have hcz92_1 : w88.cell? ⟨gb119, 1, none⟩ = some (.int .u64 0) := (blk_cell BK119.out 1).trans rfl; have hcz92_2 : w88.cell? ⟨gb119, 2, none⟩ = some (.int .u64 0) := (blk_cell BK119.out 2).trans rfl; have hcz92_3 : w88.cell? ⟨gb119, 3, none⟩ = some (.int .i64 0) := (blk_cell BK119.out 3).trans rfl; have hfz92_0 := blk_frozen BK119.out 0; have hfz92_1 := blk_frozen BK119.out 1; have hfz92_2 := blk_frozen BK119.out 2; have hfz92_3 := blk_frozen BK119.out 3; have hcz93_0 : w88.cell? ⟨gb102, 0, none⟩ = some (.string a2_0) := (blk_cell BK102.out 0).trans rfl; have hcz93_1 : w88.cell? ⟨gb102, 1, none⟩ = some (.int .u64 a2_1) := (blk_cell BK102.out 1).trans rfl; have hcz93_2 : w88.cell? ⟨gb102, 2, none⟩ = some (.int .u64 a2_2) := (blk_cell BK102.out 2).trans rfl; have hcz93_3 : w88.cell? ⟨gb102, 3, none⟩ = some (.int .i64 a2_3) := (blk_cell BK102.out 3).trans rfl; have hfz93_0 := blk_frozen BK102.out 0; have hfz93_1 := blk_frozen BK102.out 1; have hfz93_2 := blk_frozen BK102.out 2; have hfz93_3 := blk_frozen BK102.out 3; have hcz94_0 : w88.cell? ⟨gb101, 0, none⟩ = some (.bool a1_0) := (blk_cell BK101.out 0).trans rfl; have hcz94_1 : w88.cell? ⟨gb101, 1, none⟩ = some (.string a1_1) := (blk_cell BK101.out 1).trans rfl; have hcz94_2 : w88.cell? ⟨gb101, 2, none⟩ = some (.string a1_2) := (blk_cell BK101.out 2).trans rfl; have hcz94_3 : w88.cell? ⟨gb101, 3, none⟩ = some (.int .u64 a1_3) := (blk_cell BK101.out 3).trans rfl; have hcz94_4 : w88.cell? ⟨gb101, 4, none⟩ = some (.int .u64 a1_4) := (blk_cell BK101.out 4).trans rfl; have hcz94_5 : w88.cell? ⟨gb101, 5, none⟩ = some (.int .u64 a1_5) := (blk_cell BK101.out 5).trans rfl; have hcz94_6 : w88.cell? ⟨gb101, 6, none⟩ = some (.slice A1_6 l1_6.length c1_6) := (blk_cell BK101.out 6).trans rfl; have hfz94_0 := blk_frozen BK101.out 0; have hfz94_1 := blk_frozen BK101.out 1; have hfz94_2 := blk_frozen BK101.out 2; have hfz94_3 := blk_frozen BK101.out 3; have hfz94_4 := blk_frozen BK101.out 4; have hfz94_5 := blk_frozen BK101.out 5; have hfz94_6 := blk_frozen BK101.out 6))
             go_ret
             exact ⟨by first | rfl | (simp [errW_none, errW_some] <;> rfl) | (simp [*, errW_none, errW_some] <;> rfl), by repeat (first | (with_reducible first | exact HB.out | apply below_alloc | apply pw_below_drewN | apply below_drew1 | refine below_set ?_ GE101.out | refine below_set ?_ GE102.out | refine below_set ?_ GE110.out | refine below_set ?_ GE119.out) | exact HB.out)⟩
            ·
             rw [if_neg c78] at H
             have c78b0 : (t114.toList == a2_0.toList && ((t115 == a2_1 && (t116 == a2_2)) && (t117 == a2_3))) = false := by simpa using c78
             (try (have c78b1 : decide (t114.toList = a2_0.toList && ((t115 == a2_1 && (t116 == a2_2)) && (t117 == a2_3))) = false := by simpa using c78))
             (try (have c78b2 : (t114.toList == a2_0.toList && ((t115 == a2_1 && (t116 == a2_2)) && (t117 == a2_3))) = false := by simpa using c78))
             (try (have c78b3 : ¬ (t114.toList = a2_0.toList && ((t115 == a2_1 && (t116 == a2_2)) && (t117 == a2_3))) := by simpa using c78))
             clear c78
             obtain rfl := Option.some.inj H
             have hnb95 := NB102_101.out
             have hnc95 := NB101_102.out
             have hnb96 := NB102_110.out
             have hnc96 := NB110_102.out
             have hcz97_0 : wc.cell? ⟨gb102, 0, none⟩ = some (.string a2_0) := (blk_cell BK102.out 0).trans rfl
             have hcz97_1 : wc.cell? ⟨gb102, 1, none⟩ = some (.int .u64 a2_1) := (blk_cell BK102.out 1).trans rfl
             have hcz97_2 : wc.cell? ⟨gb102, 2, none⟩ = some (.int .u64 a2_2) := (blk_cell BK102.out 2).trans rfl
             have hcz97_3 : wc.cell? ⟨gb102, 3, none⟩ = some (.int .i64 a2_3) := (blk_cell BK102.out 3).trans rfl
             have hfz97_0 := blk_frozen BK102.out 0
             have hfz97_1 := blk_frozen BK102.out 1
             have hfz97_2 := blk_frozen BK102.out 2
             have hfz97_3 := blk_frozen BK102.out 3
             have hnb98 := NB101_110.out
             have hnc98 := NB110_101.out
             have hcz99_0 : wc.cell? ⟨gb101, 0, none⟩ = some (.bool a1_0) := (blk_cell BK101.out 0).trans rfl
             have hcz99_1 : wc.cell? ⟨gb101, 1, none⟩ = some (.string a1_1) := (blk_cell BK101.out 1).trans rfl
             have hcz99_2 : wc.cell? ⟨gb101, 2, none⟩ = some (.string a1_2) := (blk_cell BK101.out 2).trans rfl
             have hcz99_3 : wc.cell? ⟨gb101, 3, none⟩ = some (.int .u64 a1_3) := (blk_cell BK101.out 3).trans rfl
             have hcz99_4 : wc.cell? ⟨gb101, 4, none⟩ = some (.int .u64 a1_4) := (blk_cell BK101.out 4).trans rfl
             have hcz99_5 : wc.cell? ⟨gb101, 5, none⟩ = some (.int .u64 a1_5) := (blk_cell BK101.out 5).trans rfl
             have hcz99_6 : wc.cell? ⟨gb101, 6, none⟩ = some (.slice A1_6 l1_6.length c1_6) := (blk_cell BK101.out 6).trans rfl
             have hfz99_0 := blk_frozen BK101.out 0
             have hfz99_1 := blk_frozen BK101.out 1
             have hfz99_2 := blk_frozen BK101.out 2
             have hfz99_3 := blk_frozen BK101.out 3
             have hfz99_4 := blk_frozen BK101.out 4
             have hfz99_5 := blk_frozen BK101.out 5
             have hfz99_6 := blk_frozen BK101.out 6
             go_wp2_with (first | ((with_reducible refine gate_callee (f := 29) rfl ?_); refine goesL_ (some 66) rfl rfl Tryd.func29 (by kernel_rfl) rfl #[.agg #[.string a2_0, .int .u64 a2_1, .int .u64 a2_2, .int .i64 a2_3], .agg #[.bool a1_0, .string a1_1, .string a1_2, .int .u64 a1_3, .int .u64 a1_4, .int .u64 a1_5, .slice A1_6 l1_6.length c1_6]] rfl (by (try simp only [List.map_toArray, List.map_cons, List.map_nil]); first | done | rfl | (simp only [List.length_drop, List.length_take]; rfl)) ?_; (with_reducible refine (verify_Check.calls a2_0 a2_1 a2_2 a2_3 a1_0 a1_1 a1_2 a1_3 a1_4 a1_5 _ _ l1_6 t113 _ ?side1 ?side2 ?side3 A75.out).mono ?_); (case side1 => exact LaidT.below HLD.out (by repeat (first | (with_reducible first | exact HB.out | apply below_alloc | apply pw_below_drewN | apply below_drew1 | refine below_set ?_ GE101.out | refine below_set ?_ GE102.out | refine below_set ?_ GE110.out) | exact HB.out))); (case side2 => repeat (first | exact (Kd.C_below HR1_6.out HB.out) | (with_reducible refine Kd.C_alloc ?_ _) | (with_reducible refine Kd.C_drewN ?_ _) | (with_reducible refine Kd.C_drew ?_))); (case side3 => exact HC1_6.out); rintro e w100 ⟨rfl, hb⟩; refine ⟨_, rfl, ?_⟩; have n0_ := aM' (blk_below (g := gb101) (o := .cells #[.bool a1_0, .string a1_1, .string a1_2, .int .u64 a1_3, .int .u64 a1_4, .int .u64 a1_5, .slice A1_6 l1_6.length c1_6] 61 (0, 0)) (by (with_reducible repeat (first | refine blk_drewN ?_ _ | refine blk_drew ?_ | refine blk_alloc ?_ _)); exact BK101.out) hb); have n1_ := aM' (blk_below (g := gb102) (o := .cells #[.string a2_0, .int .u64 a2_1, .int .u64 a2_2, .int .i64 a2_3] 63 (0, 0)) (by (with_reducible repeat (first | refine blk_drewN ?_ _ | refine blk_drew ?_ | refine blk_alloc ?_ _)); exact BK102.out) hb); have n2_ := aM' (blk_below (g := gb110) (o := .cells #[.string t105, .int .u64 t106, .int .u64 t107, .int .i64 t108] 63 (0, 0)) (by (with_reducible repeat (first | refine blk_drewN ?_ _ | refine blk_drew ?_ | refine blk_alloc ?_ _)); exact BK110.out) hb); have n3_ := aM' (below_step (by repeat (first | (with_reducible first | exact HB.out | apply below_alloc | apply pw_below_drewN | apply below_drew1 | refine below_set ?_ GE101.out | refine below_set ?_ GE102.out | refine below_set ?_ GE110.out) | exact HB.out)) hb); clear BK101; clear BK102; clear BK110; clear HB; have BK101 := n0_; have BK102 := n1_; have BK110 := n2_; have HB := n3_; clear n0_ n1_ n2_ n3_; (try clear hb); (try clear hb2); (try clear hk); (try clear hi); have hcz101_0 : w100.cell? ⟨gb102, 0, none⟩ = some (.string a2_0) := (blk_cell BK102.out 0).trans rfl; have hcz101_1 : w100.cell? ⟨gb102, 1, none⟩ = some (.int .u64 a2_1) := (blk_cell BK102.out 1).trans rfl; have hcz101_2 : w100.cell? ⟨gb102, 2, none⟩ = some (.int .u64 a2_2) := (blk_cell BK102.out 2).trans rfl; have hcz101_3 : w100.cell? ⟨gb102, 3, none⟩ = some (.int .i64 a2_3) := (blk_cell BK102.out 3).trans rfl; have hfz101_0 := blk_frozen BK102.out 0; have hfz101_1 := blk_frozen BK102.out 1; have hfz101_2 := blk_frozen BK102.out 2; have hfz101_3 := blk_frozen BK102.out 3; have hcz102_0 : w100.cell? ⟨gb101, 0, none⟩ = some (.bool a1_0) := (blk_cell BK101.out 0).trans rfl; have hcz102_1 : w100.cell? ⟨gb101, 1, none⟩ = some (.string a1_1) := (blk_cell BK101.out 1).trans rfl; have hcz102_2 : w100.cell? ⟨gb101, 2, none⟩ = some (.string a1_2) := (blk_cell BK101.out 2).trans rfl; have hcz102_3 : w100.cell? ⟨gb101, 3, none⟩ = some (.int .u64 a1_3) := (blk_cell BK101.out 3).trans rfl; have hcz102_4 : w100.cell? ⟨gb101, 4, none⟩ = some (.int .u64 a1_4) := (blk_cell BK101.out 4).trans rfl; have hcz102_5 : w100.cell? ⟨gb101, 5, none⟩ = some (.int .u64 a1_5) := (blk_cell BK101.out 5).trans rfl; have hcz102_6 : w100.cell? ⟨gb101, 6, none⟩ = some (.slice A1_6 l1_6.length c1_6) := (blk_cell BK101.out 6).trans rfl; have hfz102_0 := blk_frozen BK101.out 0; have hfz102_1 := blk_frozen BK101.out 1; have hfz102_2 := blk_frozen BK101.out 2; have hfz102_3 := blk_frozen BK101.out 3; have hfz102_4 := blk_frozen BK101.out 4; have hfz102_5 := blk_frozen BK101.out 5; have hfz102_6 := blk_frozen BK101.out 6) | ((with_reducible refine gate_callee (f := 28) rfl ?_); refine goesL_ (some 72) rfl rfl Tryd.func28 (by kernel_rfl) rfl #[.int .i64 (a2_0.size : Int), .agg #[.bool a1_0, .string a1_1, .string a1_2, .int .u64 a1_3, .int .u64 a1_4, .int .u64 a1_5, .slice A1_6 l1_6.length c1_6]] rfl (by (try simp only [List.map_toArray, List.map_cons, List.map_nil]); first | done | rfl | (simp only [List.length_drop, List.length_take]; rfl)) ?_; (with_reducible refine (verify_Up.calls (a2_0.size : Int) a1_0 a1_1 a1_2 a1_3 a1_4 a1_5 _ _ l1_6 t114 t115 t116 t117 t118 _ ?side1 ?side2 ?side3 A76.out).mono ?_); (case side1 => exact LaidT.below HLD.out (by repeat (first | (with_reducible first | exact HB.out | apply below_alloc | apply pw_below_drewN | apply below_drew1 | refine below_set ?_ GE101.out | refine below_set ?_ GE102.out | refine below_set ?_ GE110.out) | exact HB.out))); (case side2 => repeat (first | exact (Kd.C_below HR1_6.out HB.out) | (with_reducible refine Kd.C_alloc ?_ _) | (with_reducible refine Kd.C_drewN ?_ _) | (with_reducible refine Kd.C_drew ?_))); (case side3 => exact HC1_6.out); rintro e w103 ⟨rfl, hb⟩; refine ⟨_, rfl, ?_⟩; have n0_ := aM' (blk_below (g := gb101) (o := .cells #[.bool a1_0, .string a1_1, .string a1_2, .int .u64 a1_3, .int .u64 a1_4, .int .u64 a1_5, .slice A1_6 l1_6.length c1_6] 61 (0, 0)) (by (with_reducible repeat (first | refine blk_drewN ?_ _ | refine blk_drew ?_ | refine blk_alloc ?_ _)); exact BK101.out) hb); have n1_ := aM' (blk_below (g := gb102) (o := .cells #[.string a2_0, .int .u64 a2_1, .int .u64 a2_2, .int .i64 a2_3] 63 (0, 0)) (by (with_reducible repeat (first | refine blk_drewN ?_ _ | refine blk_drew ?_ | refine blk_alloc ?_ _)); exact BK102.out) hb); have n2_ := aM' (blk_below (g := gb110) (o := .cells #[.string t105, .int .u64 t106, .int .u64 t107, .int .i64 t108] 63 (0, 0)) (by (with_reducible repeat (first | refine blk_drewN ?_ _ | refine blk_drew ?_ | refine blk_alloc ?_ _)); exact BK110.out) hb); have n3_ := aM' (below_step (by repeat (first | (with_reducible first | exact HB.out | apply below_alloc | apply pw_below_drewN | apply below_drew1 | refine below_set ?_ GE101.out | refine below_set ?_ GE102.out | refine below_set ?_ GE110.out) | exact HB.out)) hb); clear BK101; clear BK102; clear BK110; clear HB; have BK101 := n0_; have BK102 := n1_; have BK110 := n2_; have HB := n3_; clear n0_ n1_ n2_ n3_; (try clear hb); (try clear hb2); (try clear hk); (try clear hi)) | ((with_reducible refine gate_dst (N := 10) rfl ?_); (try (refine gate_guard (by rfl) ?_; dsimp only)); refine box_event ?hg (N := 10) ?hd (cs := #[.string (⟨#[]⟩ : ByteArray), .int .u64 0, .int .u64 0, .int .i64 0]) (t := 63) ?hr ?_; (case hd => rfl); (case hg => rfl); (case hr => first | (go_simp; done) | (go_simp; rfl)); intro gb119 hg w104 hbox hb; have n0_ := aM' (blk_below (g := gb101) (o := .cells #[.bool a1_0, .string a1_1, .string a1_2, .int .u64 a1_3, .int .u64 a1_4, .int .u64 a1_5, .slice A1_6 l1_6.length c1_6] 61 (0, 0)) (by (with_reducible repeat (first | refine blk_drewN ?_ _ | refine blk_drew ?_ | refine blk_alloc ?_ _)); exact BK101.out) hb); have n1_ := aM' (blk_below (g := gb102) (o := .cells #[.string a2_0, .int .u64 a2_1, .int .u64 a2_2, .int .i64 a2_3] 63 (0, 0)) (by (with_reducible repeat (first | refine blk_drewN ?_ _ | refine blk_drew ?_ | refine blk_alloc ?_ _)); exact BK102.out) hb); have n2_ := aM' (blk_below (g := gb110) (o := .cells #[.string t105, .int .u64 t106, .int .u64 t107, .int .i64 t108] 63 (0, 0)) (by (with_reducible repeat (first | refine blk_drewN ?_ _ | refine blk_drew ?_ | refine blk_alloc ?_ _)); exact BK110.out) hb); have n3_ := aM' (below_step (by repeat (first | (with_reducible first | exact HB.out | apply below_alloc | apply pw_below_drewN | apply below_drew1 | refine below_set ?_ GE101.out | refine below_set ?_ GE102.out | refine below_set ?_ GE110.out) | exact HB.out)) hb); have n4_ := aM' (hbox); have n5_ := aM' ((by rw [hg]; exact (below_size (by repeat (first | (with_reducible first | exact HB.out | apply below_alloc | apply pw_below_drewN | apply below_drew1 | refine below_set ?_ GE101.out | refine below_set ?_ GE102.out | refine below_set ?_ GE110.out) | exact HB.out))) : w.heap.size ≤ gb119)); have n6_ := aM' ((by rw [hg]; exact (below_size (by repeat (first | (with_reducible first | exact HB.out | apply below_alloc | apply pw_below_drewN | apply below_drew1 | refine below_set ?_ GE101.out | refine below_set ?_ GE102.out | refine below_set ?_ GE110.out) | exact HB.out))) : w.heap.size ≤ gb119)); have n7_ := aM' ((by rw [hg]; exact Nat.ne_of_lt (blk_lt (g := gb101) (o := .cells #[.bool a1_0, .string a1_1, .string a1_2, .int .u64 a1_3, .int .u64 a1_4, .int .u64 a1_5, .slice A1_6 l1_6.length c1_6] 61 (0, 0)) (by (with_reducible repeat (first | refine blk_drewN ?_ _ | refine blk_drew ?_ | refine blk_alloc ?_ _)); exact BK101.out)) : gb101 ≠ gb119)); have n8_ := aM' ((by rw [hg]; exact Nat.ne_of_gt (blk_lt (g := gb101) (o := .cells #[.bool a1_0, .string a1_1, .string a1_2, .int .u64 a1_3, .int .u64 a1_4, .int .u64 a1_5, .slice A1_6 l1_6.length c1_6] 61 (0, 0)) (by (with_reducible repeat (first | refine blk_drewN ?_ _ | refine blk_drew ?_ | refine blk_alloc ?_ _)); exact BK101.out)) : gb119 ≠ gb101)); have n9_ := aM' ((by rw [hg]; exact Nat.ne_of_lt (blk_lt (g := gb102) (o := .cells #[.string a2_0, .int .u64 a2_1, .int .u64 a2_2, .int .i64 a2_3] 63 (0, 0)) (by (with_reducible repeat (first | refine blk_drewN ?_ _ | refine blk_drew ?_ | refine blk_alloc ?_ _)); exact BK102.out)) : gb102 ≠ gb119)); have n10_ := aM' ((by rw [hg]; exact Nat.ne_of_gt (blk_lt (g := gb102) (o := .cells #[.string a2_0, .int .u64 a2_1, .int .u64 a2_2, .int .i64 a2_3] 63 (0, 0)) (by (with_reducible repeat (first | refine blk_drewN ?_ _ | refine blk_drew ?_ | refine blk_alloc ?_ _)); exact BK102.out)) : gb119 ≠ gb102)); have n11_ := aM' ((by rw [hg]; exact Nat.ne_of_lt (blk_lt (g := gb110) (o := .cells #[.string t105, .int .u64 t106, .int .u64 t107, .int .i64 t108] 63 (0, 0)) (by (with_reducible repeat (first | refine blk_drewN ?_ _ | refine blk_drew ?_ | refine blk_alloc ?_ _)); exact BK110.out)) : gb110 ≠ gb119)); have n12_ := aM' ((by rw [hg]; exact Nat.ne_of_gt (blk_lt (g := gb110) (o := .cells #[.string t105, .int .u64 t106, .int .u64 t107, .int .i64 t108] 63 (0, 0)) (by (with_reducible repeat (first | refine blk_drewN ?_ _ | refine blk_drew ?_ | refine blk_alloc ?_ _)); exact BK110.out)) : gb119 ≠ gb110)); clear BK101; clear BK102; clear BK110; clear HB; have BK101 := n0_; have BK102 := n1_; have BK110 := n2_; have HB := n3_; have BK119 := n4_; have GW119 := n5_; have GE119 := n6_; have NB101_119 := n7_; have NB119_101 := n8_; have NB102_119 := n9_; have NB119_102 := n10_; have NB110_119 := n11_; have NB119_110 := n12_; clear n0_ n1_ n2_ n3_ n4_ n5_ n6_ n7_ n8_ n9_ n10_ n11_ n12_; clear hb hbox hg; have hnb105 := NB119_101.out; have hnc105 := NB101_119.out; have hnb106 := NB119_102.out; have hnc106 := NB102_119.out; have hnb107 := NB119_110.out; have hnc107 := NB110_119.out; have hcz108_0 : w104.cell? ⟨gb119, 0, none⟩ = some (.string (⟨#[]⟩ : ByteArray)) := (blk_cell BK119.out 0).trans rfl; have hcz108_1 : w104.cell? ⟨gb119, 1, none⟩ = some (.int .u64 0) := (blk_cell BK119.out 1).trans rfl; have hcz108_2 : w104.cell? ⟨gb119, 2, none⟩ = some (.int .u64 0) := (blk_cell BK119.out 2).trans rfl; have hcz108_3 : w104.cell? ⟨gb119, 3, none⟩ = some (.int .i64 0) := (blk_cell BK119.out 3).trans rfl; have hfz108_0 := blk_frozen BK119.out 0; have hfz108_1 := blk_frozen BK119.out 1; have hfz108_2 := blk_frozen BK119.out 2; have hfz108_3 := blk_frozen BK119.out 3; have hcz109_0 : w104.cell? ⟨gb102, 0, none⟩ = some (.string a2_0) := (blk_cell BK102.out 0).trans rfl; have hcz109_1 : w104.cell? ⟨gb102, 1, none⟩ = some (.int .u64 a2_1) := (blk_cell BK102.out 1).trans rfl; have hcz109_2 : w104.cell? ⟨gb102, 2, none⟩ = some (.int .u64 a2_2) := (blk_cell BK102.out 2).trans rfl; have hcz109_3 : w104.cell? ⟨gb102, 3, none⟩ = some (.int .i64 a2_3) := (blk_cell BK102.out 3).trans rfl; have hfz109_0 := blk_frozen BK102.out 0; have hfz109_1 := blk_frozen BK102.out 1; have hfz109_2 := blk_frozen BK102.out 2; have hfz109_3 := blk_frozen BK102.out 3))
             go_ret
             exact ⟨by first | rfl | (simp [errW_none, errW_some] <;> rfl) | (simp [*, errW_none, errW_some] <;> rfl), by repeat (first | (with_reducible first | exact HB.out | apply below_alloc | apply pw_below_drewN | apply below_drew1 | refine below_set ?_ GE101.out | refine below_set ?_ GE102.out | refine below_set ?_ GE110.out | refine below_set ?_ GE119.out) | exact HB.out)⟩
           ·
            rw [if_neg c77] at H
            have c77b0 : (t118 == 0) = false := beq_eq_false_iff_ne.mpr c77
            have c77b1 : (t118 != 0) = true := bne_iff_ne.mpr c77
            obtain rfl := Option.some.inj H
            have hnb110 := NB102_101.out
            have hnc110 := NB101_102.out
            have hnb111 := NB102_110.out
            have hnc111 := NB110_102.out
            have hcz112_0 : wc.cell? ⟨gb102, 0, none⟩ = some (.string a2_0) := (blk_cell BK102.out 0).trans rfl
            have hcz112_1 : wc.cell? ⟨gb102, 1, none⟩ = some (.int .u64 a2_1) := (blk_cell BK102.out 1).trans rfl
            have hcz112_2 : wc.cell? ⟨gb102, 2, none⟩ = some (.int .u64 a2_2) := (blk_cell BK102.out 2).trans rfl
            have hcz112_3 : wc.cell? ⟨gb102, 3, none⟩ = some (.int .i64 a2_3) := (blk_cell BK102.out 3).trans rfl
            have hfz112_0 := blk_frozen BK102.out 0
            have hfz112_1 := blk_frozen BK102.out 1
            have hfz112_2 := blk_frozen BK102.out 2
            have hfz112_3 := blk_frozen BK102.out 3
            have hnb113 := NB101_110.out
            have hnc113 := NB110_101.out
            have hcz114_0 : wc.cell? ⟨gb101, 0, none⟩ = some (.bool a1_0) := (blk_cell BK101.out 0).trans rfl
            have hcz114_1 : wc.cell? ⟨gb101, 1, none⟩ = some (.string a1_1) := (blk_cell BK101.out 1).trans rfl
            have hcz114_2 : wc.cell? ⟨gb101, 2, none⟩ = some (.string a1_2) := (blk_cell BK101.out 2).trans rfl
            have hcz114_3 : wc.cell? ⟨gb101, 3, none⟩ = some (.int .u64 a1_3) := (blk_cell BK101.out 3).trans rfl
            have hcz114_4 : wc.cell? ⟨gb101, 4, none⟩ = some (.int .u64 a1_4) := (blk_cell BK101.out 4).trans rfl
            have hcz114_5 : wc.cell? ⟨gb101, 5, none⟩ = some (.int .u64 a1_5) := (blk_cell BK101.out 5).trans rfl
            have hcz114_6 : wc.cell? ⟨gb101, 6, none⟩ = some (.slice A1_6 l1_6.length c1_6) := (blk_cell BK101.out 6).trans rfl
            have hfz114_0 := blk_frozen BK101.out 0
            have hfz114_1 := blk_frozen BK101.out 1
            have hfz114_2 := blk_frozen BK101.out 2
            have hfz114_3 := blk_frozen BK101.out 3
            have hfz114_4 := blk_frozen BK101.out 4
            have hfz114_5 := blk_frozen BK101.out 5
            have hfz114_6 := blk_frozen BK101.out 6
            go_wp2_with (first | ((with_reducible refine gate_callee (f := 29) rfl ?_); refine goesL_ (some 66) rfl rfl Tryd.func29 (by kernel_rfl) rfl #[.agg #[.string a2_0, .int .u64 a2_1, .int .u64 a2_2, .int .i64 a2_3], .agg #[.bool a1_0, .string a1_1, .string a1_2, .int .u64 a1_3, .int .u64 a1_4, .int .u64 a1_5, .slice A1_6 l1_6.length c1_6]] rfl (by (try simp only [List.map_toArray, List.map_cons, List.map_nil]); first | done | rfl | (simp only [List.length_drop, List.length_take]; rfl)) ?_; (with_reducible refine (verify_Check.calls a2_0 a2_1 a2_2 a2_3 a1_0 a1_1 a1_2 a1_3 a1_4 a1_5 _ _ l1_6 t113 _ ?side1 ?side2 ?side3 A75.out).mono ?_); (case side1 => exact LaidT.below HLD.out (by repeat (first | (with_reducible first | exact HB.out | apply below_alloc | apply pw_below_drewN | apply below_drew1 | refine below_set ?_ GE101.out | refine below_set ?_ GE102.out | refine below_set ?_ GE110.out) | exact HB.out))); (case side2 => repeat (first | exact (Kd.C_below HR1_6.out HB.out) | (with_reducible refine Kd.C_alloc ?_ _) | (with_reducible refine Kd.C_drewN ?_ _) | (with_reducible refine Kd.C_drew ?_))); (case side3 => exact HC1_6.out); rintro e w115 ⟨rfl, hb⟩; refine ⟨_, rfl, ?_⟩; have n0_ := aM' (blk_below (g := gb101) (o := .cells #[.bool a1_0, .string a1_1, .string a1_2, .int .u64 a1_3, .int .u64 a1_4, .int .u64 a1_5, .slice A1_6 l1_6.length c1_6] 61 (0, 0)) (by (with_reducible repeat (first | refine blk_drewN ?_ _ | refine blk_drew ?_ | refine blk_alloc ?_ _)); exact BK101.out) hb); have n1_ := aM' (blk_below (g := gb102) (o := .cells #[.string a2_0, .int .u64 a2_1, .int .u64 a2_2, .int .i64 a2_3] 63 (0, 0)) (by (with_reducible repeat (first | refine blk_drewN ?_ _ | refine blk_drew ?_ | refine blk_alloc ?_ _)); exact BK102.out) hb); have n2_ := aM' (blk_below (g := gb110) (o := .cells #[.string t105, .int .u64 t106, .int .u64 t107, .int .i64 t108] 63 (0, 0)) (by (with_reducible repeat (first | refine blk_drewN ?_ _ | refine blk_drew ?_ | refine blk_alloc ?_ _)); exact BK110.out) hb); have n3_ := aM' (below_step (by repeat (first | (with_reducible first | exact HB.out | apply below_alloc | apply pw_below_drewN | apply below_drew1 | refine below_set ?_ GE101.out | refine below_set ?_ GE102.out | refine below_set ?_ GE110.out) | exact HB.out)) hb); clear BK101; clear BK102; clear BK110; clear HB; have BK101 := n0_; have BK102 := n1_; have BK110 := n2_; have HB := n3_; clear n0_ n1_ n2_ n3_; (try clear hb); (try clear hb2); (try clear hk); (try clear hi); have hcz116_0 : w115.cell? ⟨gb102, 0, none⟩ = some (.string a2_0) := (blk_cell BK102.out 0).trans rfl; have hcz116_1 : w115.cell? ⟨gb102, 1, none⟩ = some (.int .u64 a2_1) := (blk_cell BK102.out 1).trans rfl; have hcz116_2 : w115.cell? ⟨gb102, 2, none⟩ = some (.int .u64 a2_2) := (blk_cell BK102.out 2).trans rfl; have hcz116_3 : w115.cell? ⟨gb102, 3, none⟩ = some (.int .i64 a2_3) := (blk_cell BK102.out 3).trans rfl; have hfz116_0 := blk_frozen BK102.out 0; have hfz116_1 := blk_frozen BK102.out 1; have hfz116_2 := blk_frozen BK102.out 2; have hfz116_3 := blk_frozen BK102.out 3; have hcz117_0 : w115.cell? ⟨gb101, 0, none⟩ = some (.bool a1_0) := (blk_cell BK101.out 0).trans rfl; have hcz117_1 : w115.cell? ⟨gb101, 1, none⟩ = some (.string a1_1) := (blk_cell BK101.out 1).trans rfl; have hcz117_2 : w115.cell? ⟨gb101, 2, none⟩ = some (.string a1_2) := (blk_cell BK101.out 2).trans rfl; have hcz117_3 : w115.cell? ⟨gb101, 3, none⟩ = some (.int .u64 a1_3) := (blk_cell BK101.out 3).trans rfl; have hcz117_4 : w115.cell? ⟨gb101, 4, none⟩ = some (.int .u64 a1_4) := (blk_cell BK101.out 4).trans rfl; have hcz117_5 : w115.cell? ⟨gb101, 5, none⟩ = some (.int .u64 a1_5) := (blk_cell BK101.out 5).trans rfl; have hcz117_6 : w115.cell? ⟨gb101, 6, none⟩ = some (.slice A1_6 l1_6.length c1_6) := (blk_cell BK101.out 6).trans rfl; have hfz117_0 := blk_frozen BK101.out 0; have hfz117_1 := blk_frozen BK101.out 1; have hfz117_2 := blk_frozen BK101.out 2; have hfz117_3 := blk_frozen BK101.out 3; have hfz117_4 := blk_frozen BK101.out 4; have hfz117_5 := blk_frozen BK101.out 5; have hfz117_6 := blk_frozen BK101.out 6) | ((with_reducible refine gate_callee (f := 28) rfl ?_); refine goesL_ (some 72) rfl rfl Tryd.func28 (by kernel_rfl) rfl #[.int .i64 (a2_0.size : Int), .agg #[.bool a1_0, .string a1_1, .string a1_2, .int .u64 a1_3, .int .u64 a1_4, .int .u64 a1_5, .slice A1_6 l1_6.length c1_6]] rfl (by (try simp only [List.map_toArray, List.map_cons, List.map_nil]); first | done | rfl | (simp only [List.length_drop, List.length_take]; rfl)) ?_; (with_reducible refine (verify_Up.calls (a2_0.size : Int) a1_0 a1_1 a1_2 a1_3 a1_4 a1_5 _ _ l1_6 t114 t115 t116 t117 t118 _ ?side1 ?side2 ?side3 A76.out).mono ?_); (case side1 => exact LaidT.below HLD.out (by repeat (first | (with_reducible first | exact HB.out | apply below_alloc | apply pw_below_drewN | apply below_drew1 | refine below_set ?_ GE101.out | refine below_set ?_ GE102.out | refine below_set ?_ GE110.out) | exact HB.out))); (case side2 => repeat (first | exact (Kd.C_below HR1_6.out HB.out) | (with_reducible refine Kd.C_alloc ?_ _) | (with_reducible refine Kd.C_drewN ?_ _) | (with_reducible refine Kd.C_drew ?_))); (case side3 => exact HC1_6.out); rintro e w118 ⟨rfl, hb⟩; refine ⟨_, rfl, ?_⟩; have n0_ := aM' (blk_below (g := gb101) (o := .cells #[.bool a1_0, .string a1_1, .string a1_2, .int .u64 a1_3, .int .u64 a1_4, .int .u64 a1_5, .slice A1_6 l1_6.length c1_6] 61 (0, 0)) (by (with_reducible repeat (first | refine blk_drewN ?_ _ | refine blk_drew ?_ | refine blk_alloc ?_ _)); exact BK101.out) hb); have n1_ := aM' (blk_below (g := gb102) (o := .cells #[.string a2_0, .int .u64 a2_1, .int .u64 a2_2, .int .i64 a2_3] 63 (0, 0)) (by (with_reducible repeat (first | refine blk_drewN ?_ _ | refine blk_drew ?_ | refine blk_alloc ?_ _)); exact BK102.out) hb); have n2_ := aM' (blk_below (g := gb110) (o := .cells #[.string t105, .int .u64 t106, .int .u64 t107, .int .i64 t108] 63 (0, 0)) (by (with_reducible repeat (first | refine blk_drewN ?_ _ | refine blk_drew ?_ | refine blk_alloc ?_ _)); exact BK110.out) hb); have n3_ := aM' (below_step (by repeat (first | (with_reducible first | exact HB.out | apply below_alloc | apply pw_below_drewN | apply below_drew1 | refine below_set ?_ GE101.out | refine below_set ?_ GE102.out | refine below_set ?_ GE110.out) | exact HB.out)) hb); clear BK101; clear BK102; clear BK110; clear HB; have BK101 := n0_; have BK102 := n1_; have BK110 := n2_; have HB := n3_; clear n0_ n1_ n2_ n3_; (try clear hb); (try clear hb2); (try clear hk); (try clear hi)) | ((with_reducible refine gate_dst (N := 10) rfl ?_); (try (refine gate_guard (by rfl) ?_; dsimp only)); refine box_event ?hg (N := 10) ?hd (cs := #[.string (⟨#[]⟩ : ByteArray), .int .u64 0, .int .u64 0, .int .i64 0]) (t := 63) ?hr ?_; (case hd => rfl); (case hg => rfl); (case hr => first | (go_simp; done) | (go_simp; rfl)); intro gb119 hg w119 hbox hb; have n0_ := aM' (blk_below (g := gb101) (o := .cells #[.bool a1_0, .string a1_1, .string a1_2, .int .u64 a1_3, .int .u64 a1_4, .int .u64 a1_5, .slice A1_6 l1_6.length c1_6] 61 (0, 0)) (by (with_reducible repeat (first | refine blk_drewN ?_ _ | refine blk_drew ?_ | refine blk_alloc ?_ _)); exact BK101.out) hb); have n1_ := aM' (blk_below (g := gb102) (o := .cells #[.string a2_0, .int .u64 a2_1, .int .u64 a2_2, .int .i64 a2_3] 63 (0, 0)) (by (with_reducible repeat (first | refine blk_drewN ?_ _ | refine blk_drew ?_ | refine blk_alloc ?_ _)); exact BK102.out) hb); have n2_ := aM' (blk_below (g := gb110) (o := .cells #[.string t105, .int .u64 t106, .int .u64 t107, .int .i64 t108] 63 (0, 0)) (by (with_reducible repeat (first | refine blk_drewN ?_ _ | refine blk_drew ?_ | refine blk_alloc ?_ _)); exact BK110.out) hb); have n3_ := aM' (below_step (by repeat (first | (with_reducible first | exact HB.out | apply below_alloc | apply pw_below_drewN | apply below_drew1 | refine below_set ?_ GE101.out | refine below_set ?_ GE102.out | refine below_set ?_ GE110.out) | exact HB.out)) hb); have n4_ := aM' (hbox); have n5_ := aM' ((by rw [hg]; exact (below_size (by repeat (first | (with_reducible first | exact HB.out | apply below_alloc | apply pw_below_drewN | apply below_drew1 | refine below_set ?_ GE101.out | refine below_set ?_ GE102.out | refine below_set ?_ GE110.out) | exact HB.out))) : w.heap.size ≤ gb119)); have n6_ := aM' ((by rw [hg]; exact (below_size (by repeat (first | (with_reducible first | exact HB.out | apply below_alloc | apply pw_below_drewN | apply below_drew1 | refine below_set ?_ GE101.out | refine below_set ?_ GE102.out | refine below_set ?_ GE110.out) | exact HB.out))) : w.heap.size ≤ gb119)); have n7_ := aM' ((by rw [hg]; exact Nat.ne_of_lt (blk_lt (g := gb101) (o := .cells #[.bool a1_0, .string a1_1, .string a1_2, .int .u64 a1_3, .int .u64 a1_4, .int .u64 a1_5, .slice A1_6 l1_6.length c1_6] 61 (0, 0)) (by (with_reducible repeat (first | refine blk_drewN ?_ _ | refine blk_drew ?_ | refine blk_alloc ?_ _)); exact BK101.out)) : gb101 ≠ gb119)); have n8_ := aM' ((by rw [hg]; exact Nat.ne_of_gt (blk_lt (g := gb101) (o := .cells #[.bool a1_0, .string a1_1, .string a1_2, .int .u64 a1_3, .int .u64 a1_4, .int .u64 a1_5, .slice A1_6 l1_6.length c1_6] 61 (0, 0)) (by (with_reducible repeat (first | refine blk_drewN ?_ _ | refine blk_drew ?_ | refine blk_alloc ?_ _)); exact BK101.out)) : gb119 ≠ gb101)); have n9_ := aM' ((by rw [hg]; exact Nat.ne_of_lt (blk_lt (g := gb102) (o := .cells #[.string a2_0, .int .u64 a2_1, .int .u64 a2_2, .int .i64 a2_3] 63 (0, 0)) (by (with_reducible repeat (first | refine blk_drewN ?_ _ | refine blk_drew ?_ | refine blk_alloc ?_ _)); exact BK102.out)) : gb102 ≠ gb119)); have n10_ := aM' ((by rw [hg]; exact Nat.ne_of_gt (blk_lt (g := gb102) (o := .cells #[.string a2_0, .int .u64 a2_1, .int .u64 a2_2, .int .i64 a2_3] 63 (0, 0)) (by (with_reducible repeat (first | refine blk_drewN ?_ _ | refine blk_drew ?_ | refine blk_alloc ?_ _)); exact BK102.out)) : gb119 ≠ gb102)); have n11_ := aM' ((by rw [hg]; exact Nat.ne_of_lt (blk_lt (g := gb110) (o := .cells #[.string t105, .int .u64 t106, .int .u64 t107, .int .i64 t108] 63 (0, 0)) (by (with_reducible repeat (first | refine blk_drewN ?_ _ | refine blk_drew ?_ | refine blk_alloc ?_ _)); exact BK110.out)) : gb110 ≠ gb119)); have n12_ := aM' ((by rw [hg]; exact Nat.ne_of_gt (blk_lt (g := gb110) (o := .cells #[.string t105, .int .u64 t106, .int .u64 t107, .int .i64 t108] 63 (0, 0)) (by (with_reducible repeat (first | refine blk_drewN ?_ _ | refine blk_drew ?_ | refine blk_alloc ?_ _)); exact BK110.out)) : gb119 ≠ gb110)); clear BK101; clear BK102; clear BK110; clear HB; have BK101 := n0_; have BK102 := n1_; have BK110 := n2_; have HB := n3_; have BK119 := n4_; have GW119 := n5_; have GE119 := n6_; have NB101_119 := n7_; have NB119_101 := n8_; have NB102_119 := n9_; have NB119_102 := n10_; have NB110_119 := n11_; have NB119_110 := n12_; clear n0_ n1_ n2_ n3_ n4_ n5_ n6_ n7_ n8_ n9_ n10_ n11_ n12_; clear hb hbox hg; have hnb120 := NB119_101.out; have hnc120 := NB101_119.out; have hnb121 := NB119_102.out; have hnc121 := NB102_119.out; have hnb122 := NB119_110.out; have hnc122 := NB110_119.out; have hcz123_0 : w119.cell? ⟨gb119, 0, none⟩ = some (.string (⟨#[]⟩ : ByteArray)) := (blk_cell BK119.out 0).trans rfl; have hcz123_1 : w119.cell? ⟨gb119, 1, none⟩ = some (.int .u64 0) := (blk_cell BK119.out 1).trans rfl; have hcz123_2 : w119.cell? ⟨gb119, 2, none⟩ = some (.int .u64 0) := (blk_cell BK119.out 2).trans rfl; have hcz123_3 : w119.cell? ⟨gb119, 3, none⟩ = some (.int .i64 0) := (blk_cell BK119.out 3).trans rfl; have hfz123_0 := blk_frozen BK119.out 0; have hfz123_1 := blk_frozen BK119.out 1; have hfz123_2 := blk_frozen BK119.out 2; have hfz123_3 := blk_frozen BK119.out 3))
            go_ret
            exact ⟨by first | rfl | (simp [errW_none, errW_some] <;> rfl) | (simp [*, errW_none, errW_some] <;> rfl), by repeat (first | (with_reducible first | exact HB.out | apply below_alloc | apply pw_below_drewN | apply below_drew1 | refine below_set ?_ GE101.out | refine below_set ?_ GE102.out | refine below_set ?_ GE110.out | refine below_set ?_ GE119.out) | exact HB.out)⟩
 ·
  replace c5 := Bool.eq_false_iff.mpr c5
  subst c5
  have H1 : (some false) = some r := by rw [if_neg (show ¬ (false = true) by decide)] at H; exact H
  clear H
  have H := H1
  clear H1
  obtain rfl := Option.some.inj H
  go_enter Tryd.func9, Tryd.ntmps9
  go_wp2_with (first | ((with_reducible refine gate_dst (N := 4) rfl ?_); (try (refine gate_guard (by rfl) ?_; dsimp only)); refine box_event ?hg (N := 4) ?hd (cs := #[.bool a1_0, .string a1_1, .string a1_2, .int .u64 a1_3, .int .u64 a1_4, .int .u64 a1_5, .slice A1_6 l1_6.length c1_6]) (t := 61) ?hr ?_; (case hd => rfl); (case hg => rfl); (case hr => first | (go_simp; done) | (go_simp; rfl)); intro gb101 hg w124 hbox hb; have n0_ := aM' (below_step (by repeat (first | (with_reducible first | exact HB.out | apply below_alloc | apply pw_below_drewN | apply below_drew1) | exact HB.out)) hb); have n1_ := aM' (hbox); have n2_ := aM' ((by rw [hg]; exact (below_size (by repeat (first | (with_reducible first | exact HB.out | apply below_alloc | apply pw_below_drewN | apply below_drew1) | exact HB.out))) : w.heap.size ≤ gb101)); have n3_ := aM' ((by rw [hg]; exact (below_size (by repeat (first | (with_reducible first | exact HB.out | apply below_alloc | apply pw_below_drewN | apply below_drew1) | exact HB.out))) : w.heap.size ≤ gb101)); clear HB; have HB := n0_; have BK101 := n1_; have GW101 := n2_; have GE101 := n3_; clear n0_ n1_ n2_ n3_; clear hb hbox hg) | ((with_reducible refine gate_dst (N := 5) rfl ?_); (try (refine gate_guard (by rfl) ?_; dsimp only)); refine box_event ?hg (N := 5) ?hd (cs := #[.string a2_0, .int .u64 a2_1, .int .u64 a2_2, .int .i64 a2_3]) (t := 63) ?hr ?_; (case hd => rfl); (case hg => rfl); (case hr => first | (go_simp; done) | (go_simp; rfl)); intro gb102 hg w125 hbox hb; have n0_ := aM' (blk_below (g := gb101) (o := .cells #[.bool a1_0, .string a1_1, .string a1_2, .int .u64 a1_3, .int .u64 a1_4, .int .u64 a1_5, .slice A1_6 l1_6.length c1_6] 61 (0, 0)) (by (with_reducible repeat (first | refine blk_drewN ?_ _ | refine blk_drew ?_ | refine blk_alloc ?_ _)); exact BK101.out) hb); have n1_ := aM' (below_step (by repeat (first | (with_reducible first | exact HB.out | apply below_alloc | apply pw_below_drewN | apply below_drew1 | refine below_set ?_ GE101.out) | exact HB.out)) hb); have n2_ := aM' (hbox); have n3_ := aM' ((by rw [hg]; exact (below_size (by repeat (first | (with_reducible first | exact HB.out | apply below_alloc | apply pw_below_drewN | apply below_drew1 | refine below_set ?_ GE101.out) | exact HB.out))) : w.heap.size ≤ gb102)); have n4_ := aM' ((by rw [hg]; exact (below_size (by repeat (first | (with_reducible first | exact HB.out | apply below_alloc | apply pw_below_drewN | apply below_drew1 | refine below_set ?_ GE101.out) | exact HB.out))) : w.heap.size ≤ gb102)); have n5_ := aM' ((by rw [hg]; exact Nat.ne_of_lt (blk_lt (g := gb101) (o := .cells #[.bool a1_0, .string a1_1, .string a1_2, .int .u64 a1_3, .int .u64 a1_4, .int .u64 a1_5, .slice A1_6 l1_6.length c1_6] 61 (0, 0)) (by (with_reducible repeat (first | refine blk_drewN ?_ _ | refine blk_drew ?_ | refine blk_alloc ?_ _)); exact BK101.out)) : gb101 ≠ gb102)); have n6_ := aM' ((by rw [hg]; exact Nat.ne_of_gt (blk_lt (g := gb101) (o := .cells #[.bool a1_0, .string a1_1, .string a1_2, .int .u64 a1_3, .int .u64 a1_4, .int .u64 a1_5, .slice A1_6 l1_6.length c1_6] 61 (0, 0)) (by (with_reducible repeat (first | refine blk_drewN ?_ _ | refine blk_drew ?_ | refine blk_alloc ?_ _)); exact BK101.out)) : gb102 ≠ gb101)); clear BK101; clear HB; have BK101 := n0_; have HB := n1_; have BK102 := n2_; have GW102 := n3_; have GE102 := n4_; have NB101_102 := n5_; have NB102_101 := n6_; clear n0_ n1_ n2_ n3_ n4_ n5_ n6_; clear hb hbox hg) | ((with_reducible refine gate_callee (f := 26) rfl ?_); refine goesL_ (some 12) rfl rfl Tryd.func26 (by kernel_rfl) rfl #[] rfl (by (try simp only [List.map_toArray, List.map_cons, List.map_nil]); first | done | rfl | (simp only [List.length_drop, List.length_take]; rfl)) ?_; (with_reducible refine (paymasterlaw17_awake.calls  false _ ?side1 A4.out).mono ?_); (case side1 => exact LaidT.below HLD.out (by repeat (first | (with_reducible first | exact HB.out | apply below_alloc | apply pw_below_drewN | apply below_drew1 | refine below_set ?_ GE101.out | refine below_set ?_ GE102.out) | exact HB.out))); rintro e w126 ⟨rfl, hb⟩; refine ⟨_, rfl, ?_⟩; have n0_ := aM' (blk_below (g := gb101) (o := .cells #[.bool a1_0, .string a1_1, .string a1_2, .int .u64 a1_3, .int .u64 a1_4, .int .u64 a1_5, .slice A1_6 l1_6.length c1_6] 61 (0, 0)) (by (with_reducible repeat (first | refine blk_drewN ?_ _ | refine blk_drew ?_ | refine blk_alloc ?_ _)); exact BK101.out) hb); have n1_ := aM' (blk_below (g := gb102) (o := .cells #[.string a2_0, .int .u64 a2_1, .int .u64 a2_2, .int .i64 a2_3] 63 (0, 0)) (by (with_reducible repeat (first | refine blk_drewN ?_ _ | refine blk_drew ?_ | refine blk_alloc ?_ _)); exact BK102.out) hb); have n2_ := aM' (below_step (by repeat (first | (with_reducible first | exact HB.out | apply below_alloc | apply pw_below_drewN | apply below_drew1 | refine below_set ?_ GE101.out | refine below_set ?_ GE102.out) | exact HB.out)) hb); clear BK101; clear BK102; clear HB; have BK101 := n0_; have BK102 := n1_; have HB := n2_; clear n0_ n1_ n2_; (try clear hb); (try clear hb2); (try clear hk); (try clear hi)))
  go_ret
  exact ⟨by first | rfl | (simp [errW_none, errW_some] <;> rfl) | (simp [*, errW_none, errW_some] <;> rfl), by repeat (first | (with_reducible first | exact HB.out | apply below_alloc | apply pw_below_drewN | apply below_drew1 | refine below_set ?_ GE101.out | refine below_set ?_ GE102.out) | exact HB.out)⟩
end Go.Proofs.YtijfifphcchbbaaDoor.P
namespace Go.Proofs.YtijfifphcchbbaaDoor.P
open Go.RowKit Go.Proofs.YtijfifphcchbbaaDoorW.PrintWords Go.Proofs.YtijfifphcchbbaaDoorW.PrintLast Go.Proofs.YtijfifphcchbbaaDoorW.PrintMore
set_option linter.unusedVariables false
set_option linter.unusedSimpArgs false
set_option linter.unnecessarySimpa false
theorem longE_false {e : SEntry} (h : longE e = false) : e.f1.f1.length ≤ 100 ∧ e.f0.f1.size ≤ 200 ∧ e.f0.f2.size ≤ 200 := by
 unfold longE greatL at h
 simp only [Bool.or_eq_false_iff, decide_eq_false_iff_not, List.any_cons, List.any_nil, Bool.or_false] at h
 omega
theorem wfE_okE {e : SEntry} (h : wfEntry e) (hl : longE e = false) : OkE e := by
 obtain ⟨h1, h2, h3⟩ := longE_false hl
 exact ⟨by omega, by omega, ⟨wf_u64 h.1.2.2.2.1, wf_u64 h.1.2.2.2.2⟩, wf_u64 h.2.1, fun x hx => ⟨wf_u64 (h.2.2.2 x hx).2.1, wf_u64 (h.2.2.2 x hx).2.2⟩, by omega⟩
end Go.Proofs.YtijfifphcchbbaaDoor.P
namespace Go.Proofs.YtijfifphcchbbaaDoor.P
open Go.RowKit Go.Proofs.YtijfifphcchbbaaDoorW.PrintWords Go.Proofs.YtijfifphcchbbaaDoorW.PrintLast Go.Proofs.YtijfifphcchbbaaDoorW.PrintMore
set_option linter.unusedVariables false
set_option linter.unusedSimpArgs false
set_option linter.unnecessarySimpa false
def valU (u : SU128) : Int := u.f0 * 18446744073709551616 + u.f1
def totL : List SNode → Int
 | [] => 0
 | n :: l => valU n.f1 + totL l
structure NodeK (w : Int) (n : SNode) : Prop where
 of : nodeOf w n = true
 u : OkU n.f1
theorem valU_nn {u : SU128} (h : OkU u) : 0 ≤ valU u := by have := h.h0; have := h.h1; unfold valU; omega
theorem valU_lt {u : SU128} (h : OkU u) : valU u < 340282366920938463463374607431768211456 := by have := h.h0; have := h.h1; unfold valU; omega
theorem totL_nn {w : Int} : ∀ {l : List SNode}, (∀ x ∈ l, NodeK w x) → 0 ≤ totL l
 | [], _ => by simp [totL]
 | n :: l, h => by
  have h1 := valU_nn (h n (List.mem_cons_self ..)).u
  have h2 := totL_nn (l := l) fun x hx => h x (List.mem_cons_of_mem _ hx)
  rw [totL]; omega
def joinV (w : Int) (l r : SNode) : SNode := ⟨dgI w (nodeText l r), ⟨l.f1.f0 + r.f1.f0 + (l.f1.f1 + r.f1.f1) / 18446744073709551616, (l.f1.f1 + r.f1.f1) % 18446744073709551616⟩⟩
theorem joinV_val (w : Int) (l r : SNode) : valU (joinV w l r).f1 = valU l.f1 + valU r.f1 := by unfold joinV valU; dsimp only; omega
theorem joinV_k {w : Int} {l r : SNode} (hl : NodeK w l) (hr : NodeK w r) (h : valU l.f1 + valU r.f1 < 340282366920938463463374607431768211456) : NodeK w (joinV w l r) := by
 obtain ⟨w1, w2, _⟩ := nodeOf_w hl.of
 refine ⟨?_, ?_⟩
 ·
  have e : ((joinV w l r).f0.size : Int) = w := by show ((dgI w (nodeText l r)).size : Int) = w; rw [dgI_size _ _ (by omega) w2]; omega
  simp [nodeOf, e, w1, w2]
 ·
  have h1 := hl.u.h0; have h2 := hl.u.h1; have h3 := hr.u.h0; have h4 := hr.u.h1
  unfold valU at h
  unfold joinV
  exact ⟨by dsimp only; omega, by dsimp only; omega⟩
theorem joinI_room {w : Int} {l r : SNode} (hl : NodeK w l) (hr : NodeK w r) (h : valU l.f1 + valU r.f1 < 340282366920938463463374607431768211456) : joinI w l r = ((joinV w l r).f0, (joinV w l r).f1.f0, (joinV w l r).f1.f1, 0) := by
 have h2 := hl.u.h1; have h4 := hr.u.h1
 unfold valU at h
 have ha : l.f1.f0 + r.f1.f0 + (l.f1.f1 + r.f1.f1) / 18446744073709551616 < 18446744073709551616 := by omega
 unfold joinI addI128 joinV
 rw [if_pos ⟨hl.of, hr.of⟩, if_pos ha, if_pos rfl]
theorem joinI_full {w : Int} {l r : SNode} (hl : NodeK w l) (hr : NodeK w r) (h : ¬ valU l.f1 + valU r.f1 < 340282366920938463463374607431768211456) : joinI w l r = (⟨#[]⟩, 0, 0, 10) := by
 have h2 := hl.u.h1; have h4 := hr.u.h1
 unfold valU at h
 have ha : ¬ l.f1.f0 + r.f1.f0 + (l.f1.f1 + r.f1.f1) / 18446744073709551616 < 18446744073709551616 := by omega
 unfold joinI addI128
 rw [if_pos ⟨hl.of, hr.of⟩, if_neg ha, if_neg (by decide)]
end Go.Proofs.YtijfifphcchbbaaDoor.P
namespace Go.Proofs.YtijfifphcchbbaaDoor.P
open Go.RowKit Go.Proofs.YtijfifphcchbbaaDoorW.PrintWords Go.Proofs.YtijfifphcchbbaaDoorW.PrintLast Go.Proofs.YtijfifphcchbbaaDoorW.PrintMore
set_option linter.unusedVariables false
set_option linter.unusedSimpArgs false
set_option linter.unnecessarySimpa false
def stepV (w : Int) (n : SNode) (x : SNode × Bool) : SNode := if x.2 then joinV w n x.1 else joinV w x.1 n
def climbV (w : Int) : SNode → List (SNode × Bool) → SNode
 | n, [] => n
 | n, x :: xs => climbV w (stepV w n x) xs
theorem stepV_val (w : Int) (n : SNode) (x : SNode × Bool) : valU (stepV w n x).f1 = valU n.f1 + valU x.1.f1 := by
 unfold stepV; split <;> rw [joinV_val]; omega
theorem stepV_k {w : Int} {n : SNode} {x : SNode × Bool} (hn : NodeK w n) (hx : NodeK w x.1) (h : valU n.f1 + valU x.1.f1 < 340282366920938463463374607431768211456) : NodeK w (stepV w n x) := by
 unfold stepV; split
 ·
  exact joinV_k hn hx h
 ·
  exact joinV_k hx hn (by omega)
theorem stepI_room {w : Int} {n : SNode} {x : SNode × Bool} (hn : NodeK w n) (hx : NodeK w x.1) (h : valU n.f1 + valU x.1.f1 < 340282366920938463463374607431768211456) : stepI w n x = ((stepV w n x).f0, (stepV w n x).f1.f0, (stepV w n x).f1.f1, 0) := by
 unfold stepI stepV; split
 ·
  exact joinI_room hn hx h
 ·
  exact joinI_room hx hn (by omega)
theorem stepI_full {w : Int} {n : SNode} {x : SNode × Bool} (hn : NodeK w n) (hx : NodeK w x.1) (h : ¬ valU n.f1 + valU x.1.f1 < 340282366920938463463374607431768211456) : stepI w n x = (⟨#[]⟩, 0, 0, 10) := by
 unfold stepI; split
 ·
  exact joinI_full hn hx h
 ·
  exact joinI_full hx hn (by omega)
def totX (xs : List (SNode × Bool)) : Int := totL (xs.map (·.1))
theorem totX_cons (x : SNode × Bool) (xs) : totX (x :: xs) = valU x.1.f1 + totX xs := rfl
theorem totX_nn {w : Int} {xs : List (SNode × Bool)} (h : ∀ x ∈ xs, NodeK w x.1) : 0 ≤ totX xs := totL_nn fun y hy => by
 obtain ⟨x, hx, rfl⟩ := List.mem_map.1 hy; exact h x hx
theorem climbL_room {w : Int} : ∀ (xs : List (SNode × Bool)) (n : SNode), NodeK w n → (∀ x ∈ xs, NodeK w x.1) → valU n.f1 + totX xs < 340282366920938463463374607431768211456 →
  climbL w n xs = ((climbV w n xs).f0, (climbV w n xs).f1.f0, (climbV w n xs).f1.f1, 0) ∧ NodeK w (climbV w n xs) ∧ valU (climbV w n xs).f1 = valU n.f1 + totX xs
 | [], n, hn, _, _ => ⟨rfl, hn, by simp [climbV, totX, totL]⟩
 | x :: xs, n, hn, hx, h => by
  rw [totX_cons] at h
  have hx1 := hx x (by simp)
  have hxs : ∀ y ∈ xs, NodeK w y.1 := fun y hy => hx y (by simp [hy])
  have h0 := totX_nn hxs
  have hr : valU n.f1 + valU x.1.f1 < 340282366920938463463374607431768211456 := by omega
  have := climbL_room xs (stepV w n x) (stepV_k hn hx1 hr) hxs (by rw [stepV_val]; omega)
  rw [stepV_val] at this
  refine ⟨?_, this.2.1, by rw [climbV, totX_cons]; omega⟩
  rw [climbL, stepI_room hn hx1 hr, if_pos rfl, climbV]
  exact this.1
theorem climbL_full {w : Int} : ∀ (xs : List (SNode × Bool)) (n : SNode), NodeK w n → (∀ x ∈ xs, NodeK w x.1) → ¬ valU n.f1 + totX xs < 340282366920938463463374607431768211456 → climbL w n xs = (⟨#[]⟩, 0, 0, 10)
 | [], n, hn, _, h => by
  have := valU_lt hn.u
  exact absurd (by simp [totX, totL]; omega) h
 | x :: xs, n, hn, hx, h => by
  rw [totX_cons] at h
  have hx1 := hx x (by simp)
  have hxs : ∀ y ∈ xs, NodeK w y.1 := fun y hy => hx y (by simp [hy])
  by_cases hr : valU n.f1 + valU x.1.f1 < 340282366920938463463374607431768211456
  ·
   rw [climbL, stepI_room hn hx1 hr, if_pos rfl]
   exact climbL_full xs (stepV w n x) (stepV_k hn hx1 hr) hxs (by rw [stepV_val]; omega)
  ·
   rw [climbL, stepI_full hn hx1 hr, if_neg (by decide)]
theorem turnsTo_fst (p : Int) (l : List SNode) : (turnsTo p l l.length).map (·.1) = l := by
 unfold turnsTo
 rw [List.map_map]
 apply List.ext_getElem
 ·
  simp
 ·
  intro i h1 h2
  simp at h1
  simp [List.getD_eq_getElem?_getD, h1]
theorem turnsTo_k {w p : Int} {l : List SNode} (h : ∀ x ∈ l, NodeK w x) : ∀ x ∈ turnsTo p l l.length, NodeK w x.1 := fun x hx => by
 refine h _ ?_
 rw [← turnsTo_fst p l]
 exact List.mem_map.2 ⟨x, hx, rfl⟩
theorem totX_turns (p : Int) (l : List SNode) : totX (turnsTo p l l.length) = totL l := by unfold totX; rw [turnsTo_fst]
theorem climbI_room {w p : Int} {n : SNode} {l : List SNode} (hn : NodeK w n) (hl : ∀ x ∈ l, NodeK w x) (h63 : l.length ≤ 63) (h : valU n.f1 + totL l < 340282366920938463463374607431768211456) :
  climbI w n p l = ((climbV w n (turnsTo p l l.length)).f0, (climbV w n (turnsTo p l l.length)).f1.f0, (climbV w n (turnsTo p l l.length)).f1.f1, 0) ∧ NodeK w (climbV w n (turnsTo p l l.length)) ∧ valU (climbV w n (turnsTo p l l.length)).f1 = valU n.f1 + totL l := by
 have := climbL_room (turnsTo p l l.length) n hn (turnsTo_k hl) (by rw [totX_turns]; exact h)
 rw [totX_turns] at this
 unfold climbI
 rw [if_pos ⟨hn.of, List.all_eq_true.2 fun x hx => (hl x hx).of⟩, if_neg (by omega)]
 exact this
theorem climbI_full {w p : Int} {n : SNode} {l : List SNode} (hn : NodeK w n) (hl : ∀ x ∈ l, NodeK w x) (h63 : l.length ≤ 63) (h : ¬ valU n.f1 + totL l < 340282366920938463463374607431768211456) : climbI w n p l = (⟨#[]⟩, 0, 0, 10) := by
 unfold climbI
 rw [if_pos ⟨hn.of, List.all_eq_true.2 fun x hx => (hl x hx).of⟩, if_neg (by omega)]
 exact climbL_full _ n hn (turnsTo_k hl) (by rw [totX_turns]; exact h)
end Go.Proofs.YtijfifphcchbbaaDoor.P
namespace Go.Proofs.YtijfifphcchbbaaDoor.P
open Go.RowKit Go.Proofs.YtijfifphcchbbaaDoorW.PrintWords Go.Proofs.YtijfifphcchbbaaDoorW.PrintLast Go.Proofs.YtijfifphcchbbaaDoorW.PrintMore
set_option linter.unusedVariables false
set_option linter.unusedSimpArgs false
set_option linter.unnecessarySimpa false
theorem shapeN_zero {a0 a1 p : Int} {l : List SNode} (h : shapeN a0 a1 p l = 0) : (0 ≤ a1 ∧ a1 ≤ 63) ∧ (1 ≤ a0 ∧ a0 ≤ 32) ∧ (∀ x ∈ l, nodeOf a0 x = true) ∧ (l.length : Int) = a1 := by
 unfold shapeN at h
 split at h
 ·
  exact absurd h (by decide)
 split at h
 ·
  exact absurd h (by decide)
 split at h
 ·
  exact absurd h (by decide)
 rename_i h1 h2 h3
 have g1 : ¬ a0 < 1 := fun h => h2 (.inl h)
 have g2 : ¬ a0 > 32 := fun h => h2 (.inr (.inl h))
 refine ⟨by omega, by omega, fun x hx => ?_, ?_⟩
 ·
  cases hn : nodeOf a0 x with
  | true => rfl
  | false => exact absurd (.inr (.inr (List.any_eq_true.2 ⟨x, hx, by rw [hn]; rfl⟩))) h2
 ·
  exact Classical.byContradiction fun h => h3 (.inl h)
theorem mayRI_zero {r : SRoot} : mayRI r = 0 ↔ (0 ≤ r.f2 ∧ r.f2 ≤ 63) ∧ (1 ≤ (r.f0.size : Int) ∧ (r.f0.size : Int) ≤ 32) := by
 unfold mayRI
 split
 ·
  exact ⟨fun h => absurd h (by decide), fun h => by omega⟩
 split
 ·
  exact ⟨fun h => absurd h (by decide), fun h => by omega⟩
 exact ⟨fun _ => by omega, fun _ => rfl⟩
structure UpOk (w : Int) (e : SEntry) : Prop where
 may : mayLeafI e.f0 = true
 shape : shapeN w (e.f1.f1.length : Int) e.f1.f0 e.f1.f1 = 0
 err : (climbE w e).2.2.2 = 0
theorem upI_of {w : Int} {e : SEntry} (h : UpOk w e) : upI w e = ((climbE w e).1, (climbE w e).2.1, (climbE w e).2.2.1, (e.f1.f1.length : Int), 0) := by
 unfold upI; rw [if_pos h.may, if_pos h.shape, if_pos h.err]
theorem upI_ok {w : Int} {e : SEntry} (h0 : (upI w e).2.2.2.2 = 0) : UpOk w e := by
 unfold upI at h0
 split at h0
 ·
  rename_i h1
  split at h0
  ·
   rename_i h2
   split at h0
   ·
    rename_i h3; exact ⟨h1, h2, h3⟩
   ·
    rename_i h3; exact absurd h0 h3
  ·
   rename_i h2; exact absurd h0 h2
 ·
  exact absurd h0 (by decide)
theorem upI_bad {w : Int} {e : SEntry} (h0 : ¬ (upI w e).2.2.2.2 = 0) : (upI w e).1 = ⟨#[]⟩ ∧ (upI w e).2.1 = 0 ∧ (upI w e).2.2.1 = 0 ∧ (upI w e).2.2.2.1 = 0 := by
 unfold upI at h0 ⊢
 split
 ·
  rename_i h1
  rw [if_pos h1] at h0
  split
  ·
   rename_i h2
   rw [if_pos h2] at h0
   split
   ·
    rename_i h3; rw [if_pos h3] at h0; exact absurd rfl h0
   ·
    exact ⟨rfl, rfl, rfl, rfl⟩
  ·
   exact ⟨rfl, rfl, rfl, rfl⟩
 ·
  exact ⟨rfl, rfl, rfl, rfl⟩
theorem climbE_size {w : Int} {e : SEntry} (ok : OkE e) (h : UpOk w e) : ((climbE w e).1.size : Int) = w := by
 obtain ⟨hH, hw, hN, _⟩ := shapeN_zero h.shape
 have hn : NodeK w (leafNodeI w e.f0) := by
  refine ⟨?_, leafNodeI_ok w e.f0 ok.ub⟩
  unfold leafNodeI
  rw [if_pos ⟨hw, h.may⟩]
  have e1 : ((dgI w (leafTextI e.f0)).size : Int) = w := by rw [dgI_size _ _ (by omega) hw.2]; omega
  simp [nodeOf, e1, hw.1, hw.2]
 have hl : ∀ x ∈ e.f1.f1, NodeK w x := fun x hx => ⟨hN x hx, ok.us x hx⟩
 by_cases hr : valU (leafNodeI w e.f0).f1 + totL e.f1.f1 < 340282366920938463463374607431768211456
 ·
  have := climbI_room (p := e.f1.f0) hn hl (by omega) hr
  unfold climbE
  rw [this.1]
  exact (nodeOf_w this.2.1.of).2.2
 ·
  have hf := climbI_full (p := e.f1.f0) hn hl (by omega) hr
  have := h.err
  unfold climbE at this
  rw [hf] at this
  exact absurd this (by decide)
theorem checkI_iff (r : SRoot) (e : SEntry) : checkI r e = 0 ↔ (UpOk (r.f0.size : Int) e ∧ (climbE (r.f0.size : Int) e).1.toList = r.f0.toList ∧ (climbE (r.f0.size : Int) e).2.1 = r.f1.f0 ∧ (climbE (r.f0.size : Int) e).2.2.1 = r.f1.f1 ∧ (e.f1.f1.length : Int) = r.f2) := by
 unfold checkI
 constructor
 ·
  intro h
  split at h
  ·
   split at h
   ·
    rename_i hm
    split at h
    ·
     rename_i hs
     split at h
     ·
      rename_i hc
      split at h
      ·
       rename_i ht
       have hl := (shapeN_zero hs).2.2.2
       rw [← hl] at hs
       exact ⟨⟨hm, hs, hc⟩, ht.1, ht.2.1, ht.2.2, hl⟩
      ·
       exact absurd h (by decide)
     ·
      rename_i hc; exact absurd h hc
    ·
     rename_i hs; exact absurd h hs
   ·
    exact absurd h (by decide)
  ·
   rename_i hm; exact absurd h hm
 ·
  rintro ⟨u, h1, h2, h3, h4⟩
  have hs := u.shape
  obtain ⟨hH, hw, _, _⟩ := shapeN_zero hs
  rw [h4] at hs hH
  rw [if_pos (mayRI_zero.2 ⟨hH, hw⟩), if_pos u.may, if_pos hs, if_pos u.err, if_pos ⟨h1, h2, h3⟩]
theorem check_self {w : Int} {e : SEntry} (ok : OkE e) (h : UpOk w e) : checkI ⟨(climbE w e).1, ⟨(climbE w e).2.1, (climbE w e).2.2.1⟩, (e.f1.f1.length : Int)⟩ e = 0 := by
 have hs := climbE_size ok h
 have hm := mayRI_zero (r := ⟨(climbE w e).1, ⟨(climbE w e).2.1, (climbE w e).2.2.1⟩, (e.f1.f1.length : Int)⟩)
 refine (checkI_iff _ e).2 ?_
 dsimp only
 rw [hs]
 exact ⟨h, rfl, rfl, rfl, rfl⟩
theorem may_self {w : Int} {e : SEntry} (ok : OkE e) (h : UpOk w e) : mayRI ⟨(climbE w e).1, ⟨(climbE w e).2.1, (climbE w e).2.2.1⟩, (e.f1.f1.length : Int)⟩ = 0 := by
 have hs := climbE_size ok h
 obtain ⟨hH, hw, _, _⟩ := shapeN_zero h.shape
 refine mayRI_zero.2 ?_
 dsimp only
 rw [hs]
 exact ⟨hH, hw⟩
theorem verifyUp_eq (w : Int) (e : SEntry) (h : OkE e) : verify_Up.f w e.f0.f0 e.f0.f1 e.f0.f2 e.f0.f3.f0 e.f0.f3.f1 e.f1.f0 e.f1.f1 = some (upI w e) := by
 unfold verify_Up.f
 rw [if_pos ⟨⟨h.id, h.sa, h.ls⟩, ⟨h.ub.h0, h.ub.h1, h.p⟩, fun x hx => ⟨(h.us x hx).h0, (h.us x hx).h1⟩⟩]
theorem one_j2 (e : SEntry) (r : SRoot) (ok : OkE e) : Ev (fun k => paymasterlaw17_VerifyOne.j2 k false e.f0.f0 e.f0.f1 e.f0.f2 e.f0.f3.f0 e.f0.f3.f1 e.f1.f0 e.f1.f1 r.f0 r.f1.f0 r.f1.f1 r.f2) true := by
 have hi := checkI_iff r e
 refine Ev.step (f := fun _ => some true) (fun k => ?_) (Ev.now true)
 simp only [paymasterlaw17_VerifyOne.j2]
 rw [if_neg (by decide), verifyCheck_eq r e ok, verifyUp_eq _ e ok]
 simp only [Option.bind_some]
 by_cases h0 : (upI (r.f0.size : Int) e).2.2.2.2 = 0
 ·
  have u := upI_ok h0
  rw [if_pos h0, upI_of u]
  dsimp only
  have hl := (shapeN_zero u.shape).2.2.2
  by_cases hc : checkI r e = 0
  ·
   obtain ⟨_, h1, h2, h3, h4⟩ := hi.1 hc
   rw [if_pos (by simp [h1, h2, h3, h4]), hc, h4]; simp
  ·
   split
   ·
    rename_i he
    simp only [Bool.and_eq_true, beq_iff_eq] at he
    exact absurd (hi.2 ⟨u, he.1, he.2.1.1, he.2.1.2, he.2.2⟩) hc
   ·
    simp [hc]
 ·
  rw [if_neg h0]
  have hc : ¬ checkI r e = 0 := fun h => h0 (by rw [upI_of (hi.1 h).1])
  simp [hc]
theorem pure_VerifyOne : ∀ (y0 : Int) (y1 : SEntry) (y2 : SRoot), (Lit.int .i64 y0).wf = true → wfEntry y1 → wfRoot y2 → ∃ k, paymasterlaw17_VerifyOne.f k y0 y1.f0.f0 y1.f0.f1 y1.f0.f2 y1.f0.f3.f0 y1.f0.f3.f1 y1.f1.f0 y1.f1.f1 y2.f0 y2.f1.f0 y2.f1.f1 y2.f2 = some true := by
 intro wd e r _ he _
 have hl : e.f1.f1.length ≤ 9223372036854775807 := by have := he.2.2.1; omega
 refine Ev.rounds ?_
 unfold paymasterlaw17_VerifyOne.f paymasterlaw17_awake.f
 refine Ev.congr (fun k => by rw [Option.bind_some, if_pos rfl]) ?_
 refine Ev.bind (longE_ev e hl) ?_
 cases hL : longE e with
 | true =>
  refine Ev.step (f := fun _ => some true) (fun k => ?_) (Ev.now true)
  simp only [paymasterlaw17_VerifyOne.j0]
  simp
 | false =>
  have ok := wfE_okE he hL
  refine Ev.congr (fun k => by rw [if_neg (by decide)]) ?_
  by_cases h60 : (r.f0.size : Int) > 60
  ·
   refine Ev.step (f := fun _ => some true) (fun k => ?_) (Ev.now true)
   simp only [paymasterlaw17_VerifyOne.j0]
   rw [if_pos (decide_eq_true h60)]
  by_cases h0 : (upI wd e).2.2.2.2 = 0
  ·
   have u := upI_ok h0
   have hc := check_self ok u
   have hm := may_self ok u
   have hs := climbE_size ok u
   refine Ev.step (f := fun k => (verify_May.f k (climbE wd e).1 (climbE wd e).2.1 (climbE wd e).2.2.1 (e.f1.f1.length : Int)).bind fun t112 => if t112 = 0 then paymasterlaw17_VerifyOne.j1 k 0 false e.f0.f0 e.f0.f1 e.f0.f2 e.f0.f3.f0 e.f0.f3.f1 e.f1.f0 e.f1.f1 r.f0 r.f1.f0 r.f1.f1 r.f2 (climbE wd e).1 (climbE wd e).2.1 (climbE wd e).2.2.1 (e.f1.f1.length : Int) else paymasterlaw17_VerifyOne.j1 k 0 true e.f0.f0 e.f0.f1 e.f0.f2 e.f0.f3.f0 e.f0.f3.f1 e.f1.f0 e.f1.f1 r.f0 r.f1.f0 r.f1.f1 r.f2 (climbE wd e).1 (climbE wd e).2.1 (climbE wd e).2.2.1 (e.f1.f1.length : Int)) (fun k => ?_) ?_
   ·
    simp only [paymasterlaw17_VerifyOne.j0]
    rw [if_neg (by simpa using h60), verifyUp_eq wd e ok, Option.bind_some, upI_of u]
    dsimp only
    rw [if_pos rfl, verifyCheck_eq ⟨(climbE wd e).1, ⟨(climbE wd e).2.1, (climbE wd e).2.2.1⟩, (e.f1.f1.length : Int)⟩ e ok, hc, Option.bind_some, if_pos rfl, if_pos hs, bne_self_eq_false]
   ·
    refine Ev.bind (verifyMay_ev ⟨(climbE wd e).1, ⟨(climbE wd e).2.1, (climbE wd e).2.2.1⟩, (e.f1.f1.length : Int)⟩) ?_
    rw [hm]
    refine Ev.congr (fun k => by rw [if_pos rfl]) ?_
    refine Ev.step (f := fun k => paymasterlaw17_VerifyOne.j2 k false e.f0.f0 e.f0.f1 e.f0.f2 e.f0.f3.f0 e.f0.f3.f1 e.f1.f0 e.f1.f1 r.f0 r.f1.f0 r.f1.f1 r.f2) (fun k => ?_) (one_j2 e r ok)
    simp only [paymasterlaw17_VerifyOne.j1]
    rw [if_neg (by decide), if_pos trivial]
  ·
   obtain ⟨z1, z2, z3, z4⟩ := upI_bad h0
   refine Ev.step (f := fun k => paymasterlaw17_VerifyOne.j1 k (upI wd e).2.2.2.2 false e.f0.f0 e.f0.f1 e.f0.f2 e.f0.f3.f0 e.f0.f3.f1 e.f1.f0 e.f1.f1 r.f0 r.f1.f0 r.f1.f1 r.f2 (upI wd e).1 (upI wd e).2.1 (upI wd e).2.2.1 (upI wd e).2.2.2.1) (fun k => ?_) ?_
   ·
    simp only [paymasterlaw17_VerifyOne.j0]
    rw [if_neg (by simpa using h60), verifyUp_eq wd e ok, Option.bind_some, if_neg h0]
   ·
    refine Ev.step (f := fun k => paymasterlaw17_VerifyOne.j2 k false e.f0.f0 e.f0.f1 e.f0.f2 e.f0.f3.f0 e.f0.f3.f1 e.f1.f0 e.f1.f1 r.f0 r.f1.f0 r.f1.f1 r.f2) (fun k => ?_) (one_j2 e r ok)
    simp only [paymasterlaw17_VerifyOne.j1]
    rw [if_neg (by decide), if_neg h0, z1, z2, z3, z4, show (⟨#[]⟩ : ByteArray).toList = [] by decide +kernel]
    rfl
end Go.Proofs.YtijfifphcchbbaaDoor.P
namespace Go.Proofs.YtijfifphcchbbaaDoor.verifyOne
open Go.Proofs.YtijfifphcchbbaaDoor.P Go.ChangeShapes Go.WideShapes Go.ChangeAt Go.RowKit
open Go.ChangeMaps (open_string shut_string)
open Go.Proofs.YtijfifphcchbbaaDoorW.PrintWords Go.Proofs.YtijfifphcchbbaaDoorW.PrintLast Go.Proofs.YtijfifphcchbbaaDoorW.PrintMore
set_option linter.unusedVariables false
set_option linter.unusedSimpArgs false
theorem own : ownKnob Tryd.prog.godebug = none := by kernel_rfl
theorem laidOut : laidOutB Tryd.prog = true := by kernel_rfl
set_option maxRecDepth 100000 in
theorem lifted (os : Os) (started : os.Started) (H : Type) (enc : TypeId × Value → H) :
    ReturnsInHanded {} Tryd.checked os 9 .any (fun w args => (Rows.verifyOneSpec.pre enc Tryd.prog Tryd.f9 [] false w args ∧ laidMetH Tryd.prog Rows.verifyOneRow.laid w) ∧ sizedMet enc Tryd.prog Tryd.f9 (OpenSpec.ofChange Rows.verifyOneSpec) false w args)
      (Rows.verifyOneSpec.post enc Tryd.prog Tryd.f9 false true false false) := by
  refine returnsInHanded_of_change_and (C := Tryd.checked) (X := fun w _ => laidMetH Tryd.prog Rows.verifyOneRow.laid w) (fun _ _ _ hh h => h.of_heap hh) own started (by kernel_rfl) Tryd.func9
    (ChangeSpec.witness_at (enc := enc) (C := Tryd.checked) (os := os) (X := fun w _ => laidMetH Tryd.prog Rows.verifyOneRow.laid w) false (P.laidWorldT os) #[.int .i64 0, .agg #[.bool false, .string ByteArray.empty, .string ByteArray.empty, .int .u64 0, .int .u64 0, .int .u64 0, .slice none 0 0], .agg #[.string ByteArray.empty, .int .u64 0, .int .u64 0, .int .i64 0]] 8 rfl (by kernel_rfl) (by kernel_rfl) (by kernel_rfl) (by kernel_rfl) (by kernel_rfl) (P.laidWorldT_met os _)) ?_
  intro W base args ds gs before hval0 hW _ hsz0 hL _
  have hval : ∀ (j : Nat) t v, Tryd.f9.params[j]? = some t → args[j]? = some v → Value.okWide Tryd.prog W .any base t v := hval0
  have hW' := hW
  obtain ⟨p, q, hA0, hV, rfl, hfz, hnd⟩ := hW
  have hA : DataW.TrodAll enc Tryd.prog W 0 (fun _ => true) true Tryd.f9.params.toList args.toList ds p := hA0
  rw [Tryd.params9] at hA hval
  obtain ⟨v0, vs0, d0, ds0, p0, q0, hargs, rfl, rfl, h0, r0⟩ := trodAll_cons hA
  obtain ⟨v1, vs1, d1, ds1, p1, q1, rfl, rfl, rfl, h1, r1⟩ := trodAll_cons r0
  obtain ⟨v2, vs2, d2, ds2, p2, q2, rfl, rfl, rfl, h2, r2⟩ := trodAll_cons r1
  obtain ⟨rfl, rfl, rfl⟩ := trodAll_nil r2
  obtain rfl : args = #[v0, v1, v2] := by cases args; simp_all
  obtain ⟨rfl, rfl⟩ := trodVars_none hV
  have hz0 : Sized Tryd.prog 3 d0 := Sized.each hsz0 (j := 0) rfl rfl
  have hz1 : Sized Tryd.prog 61 d1 := Sized.each hsz0 (j := 1) rfl rfl
  have hz2 : Sized Tryd.prog 63 d2 := Sized.each hsz0 (j := 2) rfl rfl
  have k0 := h0
  have lt0 : ∀ x ∈ p0, x.block < W.heap.size := by obtain ⟨m, hm⟩ := k0; exact DataW.trod_lt m _ _ _ hm
  obtain ⟨y0, rfl, rfl, rfl, w0⟩ := open_int Tryd.underlying3 (hval 0 3 v0 rfl rfl) h0
  have k1 := h1
  have lt1 : ∀ x ∈ p1, x.block < W.heap.size := by obtain ⟨m, hm⟩ := k1; exact DataW.trod_lt m _ _ _ hm
  obtain ⟨y1, cs1, rfl, hk1, w1⟩ := rdEntry.agg Tryd.underlying61 (hval 1 61 v1 rfl rfl) h1 hz1
  obtain ⟨cl1, rfl⟩ : ∃ l : List Value, cs1 = l.toArray := ⟨cs1.toList, by simp⟩
  simp only [List.toList_toArray] at hk1
  obtain ⟨A1_6, c1_6, rfl, l1_6, g1_6⟩ := kEntry_open hk1
  have k2 := h2
  have lt2 : ∀ x ∈ p2, x.block < W.heap.size := by obtain ⟨m, hm⟩ := k2; exact DataW.trod_lt m _ _ _ hm
  obtain ⟨y2, cs2, rfl, hk2, w2⟩ := rdRoot.agg Tryd.underlying63 (hval 2 63 v2 rfl rfl) h2 hz2
  obtain ⟨cl2, rfl⟩ : ∃ l : List Value, cs2 = l.toArray := ⟨cs2.toList, by simp⟩
  simp only [List.toList_toArray] at hk2
  obtain rfl := kRoot_open hk2
  clear hA0 hval0 hsz0
  obtain ⟨k, h⟩ := pure_VerifyOne y0 y1 y2 w0 w1 w2
  refine (paymasterlaw17_VerifyOne.calls k y0 y1.f0.f0 y1.f0.f1 y1.f0.f2 y1.f0.f3.f0 y1.f0.f3.f1 y1.f1.f0 _ _ y1.f1.f1 y2.f0 y2.f1.f0 y2.f1.f1 y2.f2 true W (P.laidT_of_met hL) g1_6 l1_6 h).mono fun e W' ⟨he, bel0⟩ => ?_
  have bel := bel0
  subst he
  exact ⟨_, rfl, _, _, _, [], _, [], hW', trodAll_mk1 (shut_bool Tryd.underlying4 _), (trodAll_cons_mk (Below.trod laidOut (by kernel_rfl) (of_decide_eq_true (by kernel_rfl)) k0 bel lt0) (trodAll_cons_mk (Below.trod laidOut (by kernel_rfl) (of_decide_eq_true (by kernel_rfl)) k1 bel lt1) (trodAll_cons_mk (Below.trod laidOut (by kernel_rfl) (of_decide_eq_true (by kernel_rfl)) k2 bel lt2) trodAll_mk0))), rfl, bel.frame _, fun h => by cases h⟩
theorem over : Rows.verifyOneRow.holds Tryd.pinned (OpenSpec.ofChange Rows.verifyOneSpec) :=
  OpenClaim.holds_of_wide 9 Tryd.f9 rfl rfl rfl rfl rfl rfl rfl ⟨rfl, rfl, rfl, rfl, rfl⟩ rfl rfl rfl rfl rfl (by kernel_rfl) Tryd.func9 (by kernel_rfl)
    (of_decide_eq_true (by kernel_rfl)) (by unfold Func.isWrapper; first | (rw [if_pos (by decide +kernel)]; kernel_rfl) | (rw [if_neg (by decide +kernel)]; exact ⟨rfl, rfl⟩))
    (fun os started H enc _ => lifted os started H enc)
set_option maxRecDepth 100000 in
theorem proved : Rows.VerifyOneCardSaid :=
  Claim7.holds_tied_plain_at .later [] [.data, .data, .pinned] true (true, "165769d79d58bfc62aef2440c3d64497f5a859f08bfc759ed4b0f4abe4cad1c8") true
    over (fun _ h => by cases h) (by kernel_rfl) (fun _ h => by cases h) verifyOne_row_tie rfl ⟨rfl, rfl⟩ (by kernel_rfl) rfl
    (fun f fn hf hfn => by
      obtain rfl : f = 9 := Option.some.inj ((show Tryd.prog.funcNamed "paymaster/paymasterlaw17.VerifyOne" = some 9 by kernel_rfl).symm.trans hf) |>.symm
      obtain rfl : fn = Tryd.f9 := (Option.some.inj (Tryd.func9.symm.trans hfn)).symm
      exact ⟨by kernel_rfl, fun j t ht => by
        rw [Tryd.params9] at ht
        have h3 : t ∈ [3, 61, 63] := by
          have := List.mem_of_getElem? (l := [3, 61, 63]) (i := j) (a := t) (by simpa using ht)
          exact this
        simp only [List.mem_cons, List.not_mem_nil, or_false] at h3
        rcases h3 with rfl | rfl | rfl
        · exact (show Tryd.prog.wantsStandIn 3 = false by kernel_rfl)
        · exact (show Tryd.prog.wantsStandIn 61 = false by kernel_rfl)
        · exact (show Tryd.prog.wantsStandIn 63 = false by kernel_rfl)
      ⟩)
    (by kernel_rfl)
#print axioms proved
end Go.Proofs.YtijfifphcchbbaaDoor.verifyOne
namespace Go.Proofs.YtijfifphcchbbaaDoor
/-- The row, under a short name, for the claim. -/
theorem verifyOne_holds : Rows.VerifyOneCardSaid := verifyOne.proved
end Go.Proofs.YtijfifphcchbbaaDoor
