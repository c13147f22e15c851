/- PROVED HERE: the Go function paymasterlaw14.NodeSums returns true for every input that the given statement speaks of, and each argument reads behind the call as it read before. Conditions: none beyond the given statement's own (the laid table of constants, tied by the card). -/
-- Several texts of this workplace as one.
import Derived.Test.YtijfifphcchbbaaDoorZNodeSums2
import Derived.Test.YtijfifphcchbbaaDoorProg
import Derived.Deep.OwnRows
import Derived.Laws.Rows
import Derived.Test.YtijfifphcchbbaaDoorRows
import Derived.Test.YtijfifphcchbbaaDoorCards
import Derived.Test.YtijfifphcchbbaaDoorTie
namespace Go.Proofs.YtijfifphcchbbaaDoor.P
open Go.RowKit Go.Proofs.YtijfifphcchbbaaDoorW.PrintWords Go.Proofs.YtijfifphcchbbaaDoorW.PrintLast Go.Proofs.YtijfifphcchbbaaDoorW.PrintMore
attribute [local go_sem] max2_int min2_int max_two min_two max_three min_three max_four min_four-- for this text's walks alone
set_option linter.unusedVariables false
set_option linter.unusedSimpArgs false
attribute [local go_sem high] eqAU128 eqANode
mutual
def paymasterlaw14_NodeSums.j0 : Nat → Int → List (SNode) → Int → Bool → Option (Bool)
 | 0, _, _, _, _ => none
 | k + 1, x0, x1, x2, x21 => if x21 = true then (some true) else ((paymasterlaw14_sums.f k x1).bind fun bt121 => ((node_Fold.f x0 x1).bind fun bt125 => (if 0 < (x1.length : Int) then (if 1 ≤ (x1.length : Int) then ((node_Climb.f x0 ((rd_TNode x1 0).f0) ((rd_TNode x1 0).f1.f0) ((rd_TNode x1 0).f1.f1) x2 (x1.drop 1)).bind fun bt135 => (if bt125.2.2.2 = 70 then (paymasterlaw14_NodeSums.j1 k x0 x1 bt121.2.2 bt125.2.2.2 bt135.2.2.2 true bt121.1 bt121.2.1 bt125.1 bt125.2.1 bt125.2.2.1 bt135.1 bt135.2.1 bt135.2.2.1) else (paymasterlaw14_NodeSums.j1 k x0 x1 bt121.2.2 bt125.2.2.2 bt135.2.2.2 (bt135.2.2.2 == 70) bt121.1 bt121.2.1 bt125.1 bt125.2.1 bt125.2.2.1 bt135.1 bt135.2.1 bt135.2.2.1))) else (none)) else (none))))
def paymasterlaw14_NodeSums.j1 : Nat → Int → List (SNode) → Bool → Int → Int → Bool → Int → Int → ByteArray → Int → Int → ByteArray → Int → Int → Option (Bool)
 | 0, _, _, _, _, _, _, _, _, _, _, _, _, _, _ => none
 | k + 1, x0, x1, x8, x10, x12, x49, x125000, x125001, x130000, x130001, x130002, x140000, x140001, x140002 => if x49 = true then (if x10 = x12 then (if (x130000.toList == ([] : List UInt8) && ((x130001 == 0 && (x130002 == 0)))) = true then (some (x140000.toList == ([] : List UInt8) && ((x140001 == 0 && (x140002 == 0))))) else (some false)) else (some false)) else (if x10 = 0 then (if x8 = true then (if (!(x130001 == x125000) || (!(x130002 == x125001))) = true then (paymasterlaw14_NodeSums.j2 k x0 x1 x8 x10 x12 true x130000 x130001 x130002 x140000 x140001 x140002) else (if x12 = 0 then (paymasterlaw14_NodeSums.j2 k x0 x1 x8 x10 x12 (!(x140001 == x125000) || (!(x140002 == x125001))) x130000 x130001 x130002 x140000 x140001 x140002) else (paymasterlaw14_NodeSums.j2 k x0 x1 x8 x10 x12 false x130000 x130001 x130002 x140000 x140001 x140002))) else (paymasterlaw14_NodeSums.j2 k x0 x1 x8 x10 x12 true x130000 x130001 x130002 x140000 x140001 x140002)) else (if x12 = 0 then (if x8 = true then (paymasterlaw14_NodeSums.j2 k x0 x1 x8 x10 x12 (!(x140001 == x125000) || (!(x140002 == x125001))) x130000 x130001 x130002 x140000 x140001 x140002) else (paymasterlaw14_NodeSums.j2 k x0 x1 x8 x10 x12 true x130000 x130001 x130002 x140000 x140001 x140002)) else (paymasterlaw14_NodeSums.j2 k x0 x1 x8 x10 x12 false x130000 x130001 x130002 x140000 x140001 x140002)))
def paymasterlaw14_NodeSums.j2 : Nat → Int → List (SNode) → Bool → Int → Int → Bool → ByteArray → Int → Int → ByteArray → Int → Int → Option (Bool)
 | 0, _, _, _, _, _, _, _, _, _, _, _, _ => none
 | k + 1, x0, x1, x8, x10, x12, x88, x130000, x130001, x130002, x140000, x140001, x140002 => if x88 = true then (some false) else (if x10 = 0 then (if x12 = 0 then (paymasterlaw14_NodeSums.j3 k x0 x1 x10 x12 false x130000 x130001 x130002 x140000 x140001 x140002) else (if x12 = 2 then (paymasterlaw14_NodeSums.j3 k x0 x1 x10 x12 false x130000 x130001 x130002 x140000 x140001 x140002) else (if x12 = 10 then (paymasterlaw14_NodeSums.j3 k x0 x1 x10 x12 x8 x130000 x130001 x130002 x140000 x140001 x140002) else (paymasterlaw14_NodeSums.j3 k x0 x1 x10 x12 true x130000 x130001 x130002 x140000 x140001 x140002)))) else (if x10 = 2 then (if x12 = 0 then (paymasterlaw14_NodeSums.j3 k x0 x1 x10 x12 false x130000 x130001 x130002 x140000 x140001 x140002) else (if x12 = 2 then (paymasterlaw14_NodeSums.j3 k x0 x1 x10 x12 false x130000 x130001 x130002 x140000 x140001 x140002) else (if x12 = 10 then (paymasterlaw14_NodeSums.j3 k x0 x1 x10 x12 x8 x130000 x130001 x130002 x140000 x140001 x140002) else (paymasterlaw14_NodeSums.j3 k x0 x1 x10 x12 true x130000 x130001 x130002 x140000 x140001 x140002)))) else (if x10 = 10 then (if x8 = true then (paymasterlaw14_NodeSums.j3 k x0 x1 x10 x12 true x130000 x130001 x130002 x140000 x140001 x140002) else (if x12 = 0 then (paymasterlaw14_NodeSums.j3 k x0 x1 x10 x12 false x130000 x130001 x130002 x140000 x140001 x140002) else (if x12 = 2 then (paymasterlaw14_NodeSums.j3 k x0 x1 x10 x12 false x130000 x130001 x130002 x140000 x140001 x140002) else (if x12 = 10 then (paymasterlaw14_NodeSums.j3 k x0 x1 x10 x12 x8 x130000 x130001 x130002 x140000 x140001 x140002) else (paymasterlaw14_NodeSums.j3 k x0 x1 x10 x12 true x130000 x130001 x130002 x140000 x140001 x140002))))) else (paymasterlaw14_NodeSums.j3 k x0 x1 x10 x12 true x130000 x130001 x130002 x140000 x140001 x140002))))
def paymasterlaw14_NodeSums.j3 : Nat → Int → List (SNode) → Int → Int → Bool → ByteArray → Int → Int → ByteArray → Int → Int → Option (Bool)
 | 0, _, _, _, _, _, _, _, _, _, _, _ => none
 | k + 1, x0, x1, x10, x12, x116, x130000, x130001, x130002, x140000, x140001, x140002 => if x116 = true then (some false) else (if ((x12 == 2) == (decide ((wrap64 ((x1.length : Int) - 1)) > 63))) = true then (if x10 = 0 then ((node_Of.f x0 x130000 x130001 x130002).bind fun t140 => (if t140 = true then (if x12 = 0 then ((node_Of.f x0 x140000 x140001 x140002).bind fun t141 => (some t141)) else (some true)) else (some false))) else (if x12 = 0 then ((node_Of.f x0 x140000 x140001 x140002).bind fun t142 => (some t142)) else (some true))) else (some false))
end
def paymasterlaw14_NodeSums.f (k : Nat) (a0 : Int) (l1 : List (SNode)) (a2 : Int) : Option (Bool) := (paymasterlaw14_awake.f).bind fun t119 => (if t119 = true then ((paymasterlaw14_Great.f k l1).bind fun t120 => (if t120 = true then (paymasterlaw14_NodeSums.j0 k a0 l1 a2 true) else (paymasterlaw14_NodeSums.j0 k a0 l1 a2 ((l1.length : Int) == 0)))) else (some false))
def paymasterlaw14_NodeSums.T7 : Bool × List (List Nat × List Nat) := (true, [([], []), ([], []), ([1], [1]), ([2], [2]), ([], []), ([], []), ([5], [5]), ([0, 3, 4, 6], [0, 3, 4, 6]), ([7], [7]), ([8], [8]), ([8], [8]), ([], []), ([11, 9, 7, 0, 1, 2, 3, 4, 5, 6, 7, 8, 9, 11], [9, 11]), ([10, 12, 0, 1, 2, 3, 4, 5, 6, 7, 8, 9, 10, 11, 12], [10])])
def paymasterlaw14_NodeSums.B7 : List Nat := [0, 0, 2, 6, 0, 0, 32, 127, 255, 511, 511, 0, 3071, 8191]
theorem paymasterlaw14_NodeSums.tab7 : rtab .any (opsOf Tryd.f4 7) = paymasterlaw14_NodeSums.T7 := by kernel_rfl
theorem paymasterlaw14_NodeSums.bits7 : waitsOk paymasterlaw14_NodeSums.T7.2 paymasterlaw14_NodeSums.B7 = true := by kernel_rfl
set_option maxHeartbeats 8000000 in
set_option maxRecDepth 100000 in
theorem paymasterlaw14_NodeSums.calls (k : Nat) (a0 : Int) (A1 : Option Addr) (c1 : Nat) (l1 : List (SNode)) (a2 : Int) (r : Bool) (w : World) (hK : Laid w) (hr1 : Kd.C kNode w A1 l1.length l1) (hc1 : l1.length ≤ c1) (h : paymasterlaw14_NodeSums.f k a0 l1 a2 = some r) :
  Calls Tryd.prog 4 #[.int .i64 a0, .slice A1 l1.length c1, .int .u64 a2] w fun e w' => e = .returned (.bool r) ∧ Below w.heap.size w w' := by
 have hu26 := Tryd.underlying26
 have hu28 := Tryd.underlying28
 have HR1 := aM' hr1
 have HC1 := aM' hc1
 clear hr1 hc1
 have HB := aM' (Below.refl w.heap.size w)
 have HLD := aM' hK
 clear hK
 have H : ((paymasterlaw14_awake.f).bind fun t119 => (if t119 = true then ((paymasterlaw14_Great.f k l1).bind fun t120 => (if t120 = true then (paymasterlaw14_NodeSums.j0 k a0 l1 a2 true) else (paymasterlaw14_NodeSums.j0 k a0 l1 a2 ((l1.length : Int) == 0)))) else (some false))) = some r := h
 clear h
 replace H := Option.bind_eq_some_iff.mp H
 obtain ⟨t119, A40, H⟩ := H
 replace H : (if t119 = true then ((paymasterlaw14_Great.f k l1).bind fun t120 => (if t120 = true then (paymasterlaw14_NodeSums.j0 k a0 l1 a2 true) else (paymasterlaw14_NodeSums.j0 k a0 l1 a2 ((l1.length : Int) == 0)))) else (some false)) = some r := H
 have A4 := aM' A40
 clear A40
 by_cases c5 : t119 = true
 ·
  subst c5
  have H1 : ((paymasterlaw14_Great.f k l1).bind fun t120 => (if t120 = true then (paymasterlaw14_NodeSums.j0 k a0 l1 a2 true) else (paymasterlaw14_NodeSums.j0 k a0 l1 a2 ((l1.length : Int) == 0)))) = some r := by rw [if_pos rfl] at H; exact H
  clear H
  have H := H1
  clear H1
  have HC6 := aM' H
  clear H
  go_enter Tryd.func4, Tryd.ntmps4
  go_upto_region 3 with (first | ((with_reducible refine gate_callee (f := 17) rfl ?_); refine goesL_ (some 13) rfl rfl Tryd.func17 (by kernel_rfl) rfl #[] rfl (by (try simp only [List.map_toArray, List.map_cons, List.map_nil]); first | done | rfl | (simp only [List.length_drop, List.length_take]; rfl)) ?_; (with_reducible refine (paymasterlaw14_awake.calls  true _ ?side1 A4.out).mono ?_); (case side1 => exact Laid.below HLD.out (by repeat (first | (with_reducible first | exact HB.out | apply below_alloc | apply pw_below_drewN | apply below_drew1) | exact HB.out))); rintro e w7 ⟨rfl, hb⟩; refine ⟨_, rfl, ?_⟩; have n0_ := aM' (below_step (by repeat (first | (with_reducible first | exact HB.out | apply below_alloc | apply pw_below_drewN | apply below_drew1) | exact HB.out)) hb); clear HB; have HB := n0_; clear n0_; (try clear hb); (try clear hb2); (try clear hk); (try clear hi)))
  (try simp only [Act.put, List.setIfInBounds_toArray, List.set_cons_zero, List.set_cons_succ])
  go_cut [21] (fun v21 wc => ∃ (kq : Nat) (x21_5 : Bool), v21 = .bool x21_5 ∧ Aside0 (paymasterlaw14_NodeSums.j0 kq a0 l1 a2 x21_5 = some r) ∧ Aside0 (kq ≤ k) ∧ Aside0 (Below w.heap.size w wc))
  case first =>
   have H := HC6.out
   clear HC6
   replace H := Option.bind_eq_some_iff.mp H
   obtain ⟨t120, A80, H⟩ := H
   replace H : (if t120 = true then (paymasterlaw14_NodeSums.j0 k a0 l1 a2 true) else (paymasterlaw14_NodeSums.j0 k a0 l1 a2 ((l1.length : Int) == 0))) = some r := H
   have A8 := aM' A80
   clear A80
   by_cases c9 : t120 = true
   ·
    subst c9
    have H1 : (paymasterlaw14_NodeSums.j0 k a0 l1 a2 true) = some r := by rw [if_pos rfl] at H; exact H
    clear H
    have H := H1
    clear H1
    have H' := aM' H
    clear H
    go_wp2_with (first | ((with_reducible refine gate_callee (f := 13) rfl ?_); refine goesL_ (some 16) rfl rfl Tryd.func13 (by kernel_rfl) rfl #[.slice A1 l1.length c1] rfl (by (try simp only [List.map_toArray, List.map_cons, List.map_nil]); first | done | rfl | (simp only [List.length_drop, List.length_take]; rfl)) ?_; (with_reducible refine (paymasterlaw14_Great.calls k _ _ l1 true _ ?side1 ?side2 A8.out).mono ?_); (case side1 => repeat (first | exact (Kd.C_below HR1.out HB.out) | (with_reducible refine Kd.C_alloc ?_ _) | (with_reducible refine Kd.C_drewN ?_ _) | (with_reducible refine Kd.C_drew ?_))); (case side2 => exact HC1.out); rintro e w' ⟨rfl, ⟨nd, rfl⟩⟩; refine ⟨_, rfl, ?_⟩))
    go_meet
    case rel => exact ⟨_, (true), (by first | rfl | (simp; done) | (simp [*]; done)), H', ⟨by first | omega | exact Nat.le_refl _⟩, ⟨by repeat (first | (with_reducible first | exact HB.out | apply below_alloc | apply pw_below_drewN | apply below_drew1) | exact HB.out)⟩⟩
   ·
    replace c9 := Bool.eq_false_iff.mpr c9
    subst c9
    have H1 : (paymasterlaw14_NodeSums.j0 k a0 l1 a2 ((l1.length : Int) == 0)) = some r := by rw [if_neg (show ¬ (false = true) by decide)] at H; exact H
    clear H
    have H := H1
    clear H1
    have H' := aM' H
    clear H
    go_wp2_with (first | ((with_reducible refine gate_callee (f := 13) rfl ?_); refine goesL_ (some 16) rfl rfl Tryd.func13 (by kernel_rfl) rfl #[.slice A1 l1.length c1] rfl (by (try simp only [List.map_toArray, List.map_cons, List.map_nil]); first | done | rfl | (simp only [List.length_drop, List.length_take]; rfl)) ?_; (with_reducible refine (paymasterlaw14_Great.calls k _ _ l1 false _ ?side1 ?side2 A8.out).mono ?_); (case side1 => repeat (first | exact (Kd.C_below HR1.out HB.out) | (with_reducible refine Kd.C_alloc ?_ _) | (with_reducible refine Kd.C_drewN ?_ _) | (with_reducible refine Kd.C_drew ?_))); (case side2 => exact HC1.out); rintro e w' ⟨rfl, ⟨nd, rfl⟩⟩; refine ⟨_, rfl, ?_⟩))
    go_meet
    case rel => exact ⟨_, (((l1.length : Int) == 0)), (by first | rfl | (simp; done) | (simp [*]; done)), H', ⟨by first | omega | exact Nat.le_refl _⟩, ⟨by repeat (first | (with_reducible first | exact HB.out | apply below_alloc | apply pw_below_drewN | apply below_drew1) | exact HB.out)⟩⟩
  case rest =>
   clear HC6
   try clear c1
   try clear p2
   try clear c4
   try clear c5
   try clear c9
   obtain ⟨kq, x21_5, rfl, HA, HJ5, HB⟩ := hcut
   cases kq with
   | zero => exact absurd HA.out (by simp [paymasterlaw14_NodeSums.j0])
   | succ kj5 =>
    have H := HA.out
    clear HA
    simp only [paymasterlaw14_NodeSums.j0] at H
    by_cases c10 : x21_5 = true
    ·
     subst c10
     have H1 : (some true) = some r := by rw [if_pos rfl] at H; exact H
     clear H
     have H := H1
     clear H1
     obtain rfl := Option.some.inj H
     go_wp2
     go_ret
     exact ⟨by first | rfl | (simp [errW_none, errW_some] <;> rfl) | (simp [*, errW_none, errW_some] <;> rfl), by repeat (first | (with_reducible first | exact HB.out | apply below_alloc | apply pw_below_drewN | apply below_drew1) | exact HB.out)⟩
    ·
     replace c10 := Bool.eq_false_iff.mpr c10
     subst c10
     have H1 : ((paymasterlaw14_sums.f kj5 l1).bind fun bt121 => ((node_Fold.f a0 l1).bind fun bt125 => (if 0 < (l1.length : Int) then (if 1 ≤ (l1.length : Int) then ((node_Climb.f a0 ((rd_TNode l1 0).f0) ((rd_TNode l1 0).f1.f0) ((rd_TNode l1 0).f1.f1) a2 (l1.drop 1)).bind fun bt135 => (if bt125.2.2.2 = 70 then (paymasterlaw14_NodeSums.j1 kj5 a0 l1 bt121.2.2 bt125.2.2.2 bt135.2.2.2 true bt121.1 bt121.2.1 bt125.1 bt125.2.1 bt125.2.2.1 bt135.1 bt135.2.1 bt135.2.2.1) else (paymasterlaw14_NodeSums.j1 kj5 a0 l1 bt121.2.2 bt125.2.2.2 bt135.2.2.2 (bt135.2.2.2 == 70) bt121.1 bt121.2.1 bt125.1 bt125.2.1 bt125.2.2.1 bt135.1 bt135.2.1 bt135.2.2.1))) else (none)) else (none)))) = some r := by rw [if_neg (show ¬ (false = true) by decide)] at H; exact H
     clear H
     have H := H1
     clear H1
     replace H := Option.bind_eq_some_iff.mp H
     obtain ⟨⟨t121, t122, t123⟩, A110, H⟩ := H
     replace H : ((node_Fold.f a0 l1).bind fun bt125 => (if 0 < (l1.length : Int) then (if 1 ≤ (l1.length : Int) then ((node_Climb.f a0 ((rd_TNode l1 0).f0) ((rd_TNode l1 0).f1.f0) ((rd_TNode l1 0).f1.f1) a2 (l1.drop 1)).bind fun bt135 => (if bt125.2.2.2 = 70 then (paymasterlaw14_NodeSums.j1 kj5 a0 l1 t123 bt125.2.2.2 bt135.2.2.2 true t121 t122 bt125.1 bt125.2.1 bt125.2.2.1 bt135.1 bt135.2.1 bt135.2.2.1) else (paymasterlaw14_NodeSums.j1 kj5 a0 l1 t123 bt125.2.2.2 bt135.2.2.2 (bt135.2.2.2 == 70) t121 t122 bt125.1 bt125.2.1 bt125.2.2.1 bt135.1 bt135.2.1 bt135.2.2.1))) else (none)) else (none))) = some r := H
     have A11 := aM' A110
     clear A110
     replace H := Option.bind_eq_some_iff.mp H
     obtain ⟨⟨t125, t126, t127, t128⟩, A120, H⟩ := H
     replace H : (if 0 < (l1.length : Int) then (if 1 ≤ (l1.length : Int) then ((node_Climb.f a0 ((rd_TNode l1 0).f0) ((rd_TNode l1 0).f1.f0) ((rd_TNode l1 0).f1.f1) a2 (l1.drop 1)).bind fun bt135 => (if t128 = 70 then (paymasterlaw14_NodeSums.j1 kj5 a0 l1 t123 t128 bt135.2.2.2 true t121 t122 t125 t126 t127 bt135.1 bt135.2.1 bt135.2.2.1) else (paymasterlaw14_NodeSums.j1 kj5 a0 l1 t123 t128 bt135.2.2.2 (bt135.2.2.2 == 70) t121 t122 t125 t126 t127 bt135.1 bt135.2.1 bt135.2.2.1))) else (none)) else (none)) = some r := H
     have A12 := aM' A120
     clear A120
     by_cases c13 : 0 < (l1.length : Int)
     ·
      rw [if_pos c13] at H
      have c13b0 : decide (0 < (l1.length : Int)) = true := decide_eq_true c13
      have c13b1 : decide (0 < l1.length) = true := decide_eq_true (by omega)
      clear c13
      by_cases c14 : 1 ≤ (l1.length : Int)
      ·
       rw [if_pos c14] at H
       have c14b0 := eq_true c14
       have c14b1 : decide (1 ≤ (l1.length : Int)) = true := decide_eq_true c14
       clear c14
       obtain ⟨y131, hy131⟩ : ∃ y_ : List (SNode), y_ = (l1.drop 1) := ⟨_, rfl⟩
       replace H : ((node_Climb.f a0 ((rd_TNode l1 0).f0) ((rd_TNode l1 0).f1.f0) ((rd_TNode l1 0).f1.f1) a2 y131).bind fun bt135 => (if t128 = 70 then (paymasterlaw14_NodeSums.j1 kj5 a0 l1 t123 t128 bt135.2.2.2 true t121 t122 t125 t126 t127 bt135.1 bt135.2.1 bt135.2.2.1) else (paymasterlaw14_NodeSums.j1 kj5 a0 l1 t123 t128 bt135.2.2.2 (bt135.2.2.2 == 70) t121 t122 t125 t126 t127 bt135.1 bt135.2.1 bt135.2.2.1))) = some r := by first | (rw [hy131]; with_reducible exact H) | (have H2_ := (Option.bind_some _ _).symm.trans H; rw [hy131]; with_reducible exact H2_) | (have H2_ := (Option.bind_some _ _).symm.trans H; with_reducible exact H2_) | with_reducible exact H | (rw [hy131]; exact H) | exact H
       have Ny131 := aM' hy131
       clear hy131
       replace H := Option.bind_eq_some_iff.mp H
       obtain ⟨⟨t135, t136, t137, t138⟩, A150, H⟩ := H
       replace H : (if t128 = 70 then (paymasterlaw14_NodeSums.j1 kj5 a0 l1 t123 t128 t138 true t121 t122 t125 t126 t127 t135 t136 t137) else (paymasterlaw14_NodeSums.j1 kj5 a0 l1 t123 t128 t138 (t138 == 70) t121 t122 t125 t126 t127 t135 t136 t137)) = some r := H
       have A15 := aM' A150
       clear A150
       have HC16 := aM' H
       clear H
       try go_wp2_with (first | ((with_reducible refine gate_callee (f := 18) rfl ?_); refine goesL_ (some 24) rfl rfl Tryd.func18 (by kernel_rfl) rfl #[.slice A1 l1.length c1] rfl (by (try simp only [List.map_toArray, List.map_cons, List.map_nil]); first | done | rfl | (simp only [List.length_drop, List.length_take]; rfl)) ?_; (with_reducible refine (paymasterlaw14_sums.calls kj5 _ _ l1 t121 t122 t123 _ ?side1 ?side2 A11.out).mono ?_); (case side1 => repeat (first | exact (Kd.C_below HR1.out HB.out) | (with_reducible refine Kd.C_alloc ?_ _) | (with_reducible refine Kd.C_drewN ?_ _) | (with_reducible refine Kd.C_drew ?_))); (case side2 => exact HC1.out); rintro e w17 ⟨rfl, hb⟩; refine ⟨_, rfl, ?_⟩; have n0_ := aM' (below_step (by repeat (first | (with_reducible first | exact HB.out | apply below_alloc | apply pw_below_drewN | apply below_drew1) | exact HB.out)) hb); clear HB; have HB := n0_; clear n0_; (try clear hb); (try clear hb2); (try clear hk); (try clear hi)) | ((with_reducible refine gate_dst (N := 7) rfl ?_); (try (refine gate_guard (by rfl) ?_; dsimp only)); refine box_event ?hg (N := 7) ?hd (cs := #[.int .u64 0, .int .u64 0]) (t := 26) ?hr ?_; (case hd => rfl); (case hg => rfl); (case hr => first | (go_simp; done) | (go_simp; rfl)); intro gb124 hg w18 hbox hb; have n0_ := aM' (below_step (by repeat (first | (with_reducible first | exact HB.out | apply below_alloc | apply pw_below_drewN | apply below_drew1) | exact HB.out)) hb); have n1_ := aM' (hbox); have n2_ := aM' ((by rw [hg]; exact (below_size (by repeat (first | (with_reducible first | exact HB.out | apply below_alloc | apply pw_below_drewN | apply below_drew1) | exact HB.out))) : w.heap.size ≤ gb124)); have n3_ := aM' ((by rw [hg]; exact (below_size (by repeat (first | (with_reducible first | exact HB.out | apply below_alloc | apply pw_below_drewN | apply below_drew1) | exact HB.out))) : w.heap.size ≤ gb124)); clear HB; have HB := n0_; have BK124 := n1_; have GW124 := n2_; have GE124 := n3_; clear n0_ n1_ n2_ n3_; clear hb hbox hg; have hcz19_0 : w18.cell? ⟨gb124, 0, none⟩ = some (.int .u64 0) := (blk_cell BK124.out 0).trans rfl; have hcz19_1 : w18.cell? ⟨gb124, 1, none⟩ = some (.int .u64 0) := (blk_cell BK124.out 1).trans rfl; have hfz19_0 := blk_frozen BK124.out 0; have hfz19_1 := blk_frozen BK124.out 1) | ((with_reducible refine gate_callee (f := 14) rfl ?_); refine goesL_ (some 30) rfl rfl Tryd.func14 (by kernel_rfl) rfl #[.int .i64 a0, .slice A1 l1.length c1] rfl (by (try simp only [List.map_toArray, List.map_cons, List.map_nil]); first | done | rfl | (simp only [List.length_drop, List.length_take]; rfl)) ?_; (with_reducible refine (node_Fold.calls a0 _ _ l1 t125 t126 t127 t128 _ ?side1 ?side2 ?side3 A12.out).mono ?_); (case side1 => exact Laid.below HLD.out (by repeat (first | (with_reducible first | exact HB.out | apply below_alloc | apply pw_below_drewN | apply below_drew1 | refine below_set ?_ GE124.out) | exact HB.out))); (case side2 => exact Kd.C_below HR1.out (by repeat (first | (with_reducible first | exact HB.out | apply below_alloc | apply pw_below_drewN | apply below_drew1 | refine below_set ?_ GE124.out) | exact HB.out))); (case side3 => exact HC1.out); rintro e w20 ⟨rfl, hb⟩; refine ⟨_, rfl, ?_⟩; have n0_ := aM' (blk_below (g := gb124) (o := .cells #[.int .u64 t121, .int .u64 t122] 26 (0, 0)) (by (with_reducible repeat (first | refine blk_drewN ?_ _ | refine blk_drew ?_ | refine blk_alloc ?_ _)); refine blk_put (cs := #[.int .u64 t121, .int .u64 0]) ?_ 1 _ rfl; (with_reducible repeat (first | refine blk_drewN ?_ _ | refine blk_drew ?_ | refine blk_alloc ?_ _)); refine blk_put (cs := #[.int .u64 0, .int .u64 0]) ?_ 0 _ rfl; (with_reducible repeat (first | refine blk_drewN ?_ _ | refine blk_drew ?_ | refine blk_alloc ?_ _)); exact BK124.out) hb); have n1_ := aM' (below_step (by repeat (first | (with_reducible first | exact HB.out | apply below_alloc | apply pw_below_drewN | apply below_drew1 | refine below_set ?_ GE124.out) | exact HB.out)) hb); clear BK124; clear HB; have BK124 := n0_; have HB := n1_; clear n0_ n1_; (try clear hb); (try clear hb2); (try clear hk); (try clear hi)) | ((with_reducible refine gate_dst (N := 9) rfl ?_); (try (refine gate_guard (by rfl) ?_; dsimp only)); refine box_event ?hg (N := 9) ?hd (cs := #[.string (⟨#[]⟩ : ByteArray), .int .u64 0, .int .u64 0]) (t := 28) ?hr ?_; (case hd => rfl); (case hg => rfl); (case hr => first | (go_simp; done) | (go_simp; rfl)); intro gb129 hg w21 hbox hb; have n0_ := aM' (blk_below (g := gb124) (o := .cells #[.int .u64 t121, .int .u64 t122] 26 (0, 0)) (by (with_reducible repeat (first | refine blk_drewN ?_ _ | refine blk_drew ?_ | refine blk_alloc ?_ _)); exact BK124.out) hb); have n1_ := aM' (below_step (by repeat (first | (with_reducible first | exact HB.out | apply below_alloc | apply pw_below_drewN | apply below_drew1 | refine below_set ?_ GE124.out) | exact HB.out)) hb); have n2_ := aM' (hbox); have n3_ := aM' ((by rw [hg]; exact (below_size (by repeat (first | (with_reducible first | exact HB.out | apply below_alloc | apply pw_below_drewN | apply below_drew1 | refine below_set ?_ GE124.out) | exact HB.out))) : w.heap.size ≤ gb129)); have n4_ := aM' ((by rw [hg]; exact (below_size (by repeat (first | (with_reducible first | exact HB.out | apply below_alloc | apply pw_below_drewN | apply below_drew1 | refine below_set ?_ GE124.out) | exact HB.out))) : w.heap.size ≤ gb129)); have n5_ := aM' ((by rw [hg]; exact Nat.ne_of_lt (blk_lt (g := gb124) (o := .cells #[.int .u64 t121, .int .u64 t122] 26 (0, 0)) (by (with_reducible repeat (first | refine blk_drewN ?_ _ | refine blk_drew ?_ | refine blk_alloc ?_ _)); exact BK124.out)) : gb124 ≠ gb129)); have n6_ := aM' ((by rw [hg]; exact Nat.ne_of_gt (blk_lt (g := gb124) (o := .cells #[.int .u64 t121, .int .u64 t122] 26 (0, 0)) (by (with_reducible repeat (first | refine blk_drewN ?_ _ | refine blk_drew ?_ | refine blk_alloc ?_ _)); exact BK124.out)) : gb129 ≠ gb124)); clear BK124; clear HB; have BK124 := n0_; have HB := n1_; have BK129 := n2_; have GW129 := n3_; have GE129 := n4_; have NB124_129 := n5_; have NB129_124 := n6_; clear n0_ n1_ n2_ n3_ n4_ n5_ n6_; clear hb hbox hg; have hnb22 := NB129_124.out; have hnc22 := NB124_129.out; have hcz23_0 : w21.cell? ⟨gb129, 0, none⟩ = some (.string (⟨#[]⟩ : ByteArray)) := (blk_cell BK129.out 0).trans rfl; have hcz23_1 : w21.cell? ⟨gb129, 1, none⟩ = some (.int .u64 0) := (blk_cell BK129.out 1).trans rfl; have hcz23_2 : w21.cell? ⟨gb129, 2, none⟩ = some (.int .u64 0) := (blk_cell BK129.out 2).trans rfl; have hfz23_0 := blk_frozen BK129.out 0; have hfz23_1 := blk_frozen BK129.out 1; have hfz23_2 := blk_frozen BK129.out 2))
       have n0_ : Aside0 ((((w21.setCell ⟨gb129, 0, none⟩ (.string t125)).setCell ⟨gb129, 1, none⟩ (.int .u64 t126)).setCell ⟨gb129, 2, none⟩ (.int .u64 t127)).heap[gb124]? = some (.cells #[.int .u64 t121, .int .u64 t122] 26 (0, 0))) := ⟨by (with_reducible repeat (first | refine blk_drewN ?_ _ | refine blk_drew ?_ | refine blk_alloc ?_ _)); refine blk_far ?_ NB124_129.out _; (with_reducible repeat (first | refine blk_drewN ?_ _ | refine blk_drew ?_ | refine blk_alloc ?_ _)); refine blk_far ?_ NB124_129.out _; (with_reducible repeat (first | refine blk_drewN ?_ _ | refine blk_drew ?_ | refine blk_alloc ?_ _)); refine blk_far ?_ NB124_129.out _; (with_reducible repeat (first | refine blk_drewN ?_ _ | refine blk_drew ?_ | refine blk_alloc ?_ _)); exact BK124.out⟩
       have n1_ : Aside0 ((((w21.setCell ⟨gb129, 0, none⟩ (.string t125)).setCell ⟨gb129, 1, none⟩ (.int .u64 t126)).setCell ⟨gb129, 2, none⟩ (.int .u64 t127)).heap[gb129]? = some (.cells #[.string t125, .int .u64 t126, .int .u64 t127] 28 (0, 0))) := ⟨by (with_reducible repeat (first | refine blk_drewN ?_ _ | refine blk_drew ?_ | refine blk_alloc ?_ _)); refine blk_put (cs := #[.string t125, .int .u64 t126, .int .u64 0]) ?_ 2 _ rfl; (with_reducible repeat (first | refine blk_drewN ?_ _ | refine blk_drew ?_ | refine blk_alloc ?_ _)); refine blk_put (cs := #[.string t125, .int .u64 0, .int .u64 0]) ?_ 1 _ rfl; (with_reducible repeat (first | refine blk_drewN ?_ _ | refine blk_drew ?_ | refine blk_alloc ?_ _)); refine blk_put (cs := #[.string (⟨#[]⟩ : ByteArray), .int .u64 0, .int .u64 0]) ?_ 0 _ rfl; (with_reducible repeat (first | refine blk_drewN ?_ _ | refine blk_drew ?_ | refine blk_alloc ?_ _)); exact BK129.out⟩
       have n2_ : Aside0 (Below w.heap.size w (((w21.setCell ⟨gb129, 0, none⟩ (.string t125)).setCell ⟨gb129, 1, none⟩ (.int .u64 t126)).setCell ⟨gb129, 2, none⟩ (.int .u64 t127))) := ⟨by repeat (first | (with_reducible first | exact HB.out | apply below_alloc | apply pw_below_drewN | apply below_drew1 | refine below_set ?_ GE124.out | refine below_set ?_ GE129.out) | exact HB.out)⟩
       (try clear BK124)
       (try clear BK129)
       (try clear HB)
       generalize (((w21.setCell ⟨gb129, 0, none⟩ (.string t125)).setCell ⟨gb129, 1, none⟩ (.int .u64 t126)).setCell ⟨gb129, 2, none⟩ (.int .u64 t127)) = w24 at n0_ n1_ n2_ ⊢
       have BK124 := n0_
       have BK129 := n1_
       have HB := n2_
       clear n0_ n1_ n2_
       have n0_ := aM' (blk_drew BK124.out)
       have n1_ := aM' (blk_drew BK129.out)
       have n2_ := aM' (below_drew1 HB.out)
       clear BK124
       clear BK129
       clear HB
       have BK124 := n0_
       have BK129 := n1_
       have HB := n2_
       clear n0_ n1_ n2_
       have p130 : 0 ≤ (0 : Int) := (by omega)
       have q130 : 0 < (l1.length : Int) := of_decide_eq_true (by first | (with_reducible assumption) | assumption)
       obtain ⟨ad130, e130, hx130_0, hx130_1, hx130_2⟩ := at_TNode HR1.out 0 p130 q130
       have hw130_2 := hx130_2
       (try rw [show ((0 : Int)).toNat = 0 from rfl] at hw130_2)
       (try rw [show 0 * 3 = 0 from rfl] at hw130_2)
       (try rw [Addr.add_zero'] at hw130_2)
       have hw130_1 := hx130_1
       (try rw [show ((0 : Int)).toNat = 0 from rfl] at hw130_1)
       (try rw [show 0 * 3 = 0 from rfl] at hw130_1)
       (try rw [Addr.add_zero'] at hw130_1)
       have hw130_0 := hx130_0
       (try rw [show ((0 : Int)).toNat = 0 from rfl] at hw130_0)
       (try rw [show 0 * 3 = 0 from rfl] at hw130_0)
       (try rw [Addr.add_zero'] at hw130_0)
       cases e130
       have qi130 : (0 < l1.length) = True := eq_true (by omega)
       (try rw [show ((0 : Int)).toNat = 0 from rfl] at hx130_0)
       (try rw [show 0 * 3 = 0 from rfl] at hx130_0)
       (try rw [Addr.add_zero'] at hx130_0)
       (try rw [show ((0 : Int)).toNat = 0 from rfl] at hx130_1)
       (try rw [show 0 * 3 = 0 from rfl] at hx130_1)
       (try rw [Addr.add_zero'] at hx130_1)
       (try rw [show ((0 : Int)).toNat = 0 from rfl] at hx130_2)
       (try rw [show 0 * 3 = 0 from rfl] at hx130_2)
       (try rw [Addr.add_zero'] at hx130_2)
       replace hx130_0 := (HB.out.cell (bL' w _ hx130_0)).trans hx130_0
       replace hx130_1 := (HB.out.cell (bL' w _ hx130_1)).trans hx130_1
       replace hx130_2 := (HB.out.cell (bL' w _ hx130_2)).trans hx130_2
       replace p130 := eq_true p130
       replace q130 := eq_true q130
       have q26 : (1 : Int) ≤ ((l1.length : Int) : Int) := of_decide_eq_true (by first | (with_reducible assumption) | assumption)
       obtain ⟨i026, hi026, _, hsz26, _⟩ := info_parts infoNode
       have hroom26 : l1.length ≤ c1 := HC1.out
       have hC26 : Kd.C kNode _ (some ad130) l1.length l1 := HR1.out
       have hcut26 := cut_from (P := Tryd.prog) 22 28 .i64 Tryd.underlying22 hi026 3 hsz26 (some ad130) l1.length c1 1 (by omega) q26
       have hr26 := Kd.C_drop (m := (1 : Int).toNat) (c := c1) hC26 (by omega) hroom26
       obtain ⟨A26, hA26⟩ : ∃ zA, zA = (if c1 = (1 : Int).toNat then (some ad130) else ((some ad130) : Option Addr).map (·.add ((1 : Int).toNat * 3))) := ⟨_, rfl⟩
       obtain ⟨c26, hc26⟩ : ∃ zc, zc = c1 - (1 : Int).toNat := ⟨_, rfl⟩
       have hy26 : y131.length = l1.length - (1 : Int).toNat := (by rw [Ny131.out, List.length_drop] <;> omega)
       rw [show (l1).drop (1 : Int).toNat = y131 from Ny131.out.symm] at hr26
       replace hr26 : Kd.C kNode _ A26 y131.length y131 := (by rw [hA26]; exact hr26)
       rw [← hy26, ← hA26, ← hc26] at hcut26
       have HR134 := aM' hr26
       have HC134 := aM' (show y131.length ≤ c26 from by rw [hy26, hc26]; exact Nat.sub_le_sub_right hroom26 _)
       clear hr26 hC26 hroom26 hi026 hsz26 hc26
       have KY26 := aM' hy26
       have KA26 := aM' hA26
       clear hy26 hA26
       replace q26 := eq_true q26
       refine start_ (n := 14) (S := fun w' => w'.cell? ad130 = some (.string ((rd_TNode l1 0).f0)) ∧ w'.cell? ⟨ad130.block, ad130.off + 1, none⟩ = some (.int .u64 ((rd_TNode l1 0).f1.f0)) ∧ w'.cell? ⟨ad130.block, ad130.off + 2, none⟩ = some (.int .u64 ((rd_TNode l1 0).f1.f1))) (ds := []) #[false, false, false, false, false, false, false, false, false, false, false, false, false, false] (by kernel_rfl) rfl rfl ⟨((HB.out.cell (bL' w _ hw130_0)).trans hw130_0), ((HB.out.cell (bL' w _ hw130_1)).trans hw130_1), ((HB.out.cell (bL' w _ hw130_2)).trans hw130_2)⟩ (fun hHeld => ?_); refine with_tabW paymasterlaw14_NodeSums.tab7 paymasterlaw14_NodeSums.bits7 (fun HT_ HW_ => ?_)
       generalize w24.drew = w25 at BK124 BK129 HB HR134 hx130_0 hx130_1 hx130_2 hHeld ⊢
       refine pure_ (i := 0) (N := some 34) (v := ?_) (a' := ?_) #[true, false, false, false, false, false, false, false, false, false, false, false, false, false] rfl rfl (any_of HT_.out (by kernel_rfl)) (fun _ _ _ h => h) (Or.inl ⟨by rfl, ?_⟩) ?_ ?_
       rotate_left
       ·
        intro w'
        go_simp
        with_reducible rfl
       rotate_left
       ·
        simp only [Act.put, List.setIfInBounds_toArray, List.set_cons_zero, List.set_cons_succ, i64_w, i32_w]
        rfl
       refine pure_ (i := 1) (N := some 35) (v := ?_) (a' := ?_) #[true, true, false, false, false, false, false, false, false, false, false, false, false, false] rfl rfl (any_of HT_.out (by kernel_rfl)) (fun _ _ _ h => h) (Or.inl ⟨by rfl, ?_⟩) ?_ ?_
       rotate_left
       ·
        intro w'
        go_simp
        with_reducible rfl
       rotate_left
       ·
        simp only [Act.put, List.setIfInBounds_toArray, List.set_cons_zero, List.set_cons_succ, i64_w, i32_w]
        rfl
       refine pure_ (i := 2) (N := some 36) (v := ?_) (a' := ?_) #[true, true, true, false, false, false, false, false, false, false, false, false, false, false] rfl rfl (any_of HT_.out (by kernel_rfl)) (fun _ _ _ h => h) (Or.inl ⟨by rfl, ?_⟩) ?_ ?_
       rotate_left
       ·
        intro w'
        go_simp
        with_reducible rfl
       rotate_left
       ·
        simp only [Act.put, List.setIfInBounds_toArray, List.set_cons_zero, List.set_cons_succ, i64_w, i32_w]
        rfl
       refine pure_ (i := 4) (N := some 38) (v := ?_) (a' := ?_) #[true, true, true, false, true, false, false, false, false, false, false, false, false, false] rfl rfl (any_of HT_.out (by kernel_rfl)) (fun _ _ _ h => h) (Or.inl ⟨by rfl, ?_⟩) ?_ ?_
       rotate_left
       ·
        intro w'
        go_simp
        with_reducible rfl
       rotate_left
       ·
        simp only [Act.put, List.setIfInBounds_toArray, List.set_cons_zero, List.set_cons_succ, i64_w, i32_w]
        rfl
       refine pure_ (i := 5) (N := some 39) (v := ?_) (a' := ?_) #[true, true, true, false, true, true, false, false, false, false, false, false, false, false] rfl rfl (any_of HT_.out (by kernel_rfl)) (fun _ _ _ h => h) (Or.inl ⟨by rfl, ?_⟩) ?_ ?_
       rotate_left
       ·
        intro w'
        go_simp
        with_reducible rfl
       rotate_left
       ·
        simp only [Act.put, List.setIfInBounds_toArray, List.set_cons_zero, List.set_cons_succ, i64_w, i32_w]
        rfl
       refine pure_ (i := 6) (N := some 40) (v := ?_) (a' := ?_) #[true, true, true, false, true, true, true, false, false, false, false, false, false, false] rfl rfl (any_of HT_.out (by kernel_rfl)) (fun _ _ _ h => h) (Or.inl ⟨by rfl, ?_⟩) ?_ ?_
       rotate_left
       ·
        intro w'
        go_simp
        with_reducible rfl
       rotate_left
       ·
        simp only [Act.put, List.setIfInBounds_toArray, List.set_cons_zero, List.set_cons_succ, i64_w, i32_w]
        rfl
       refine take_ (i := 3) (N := some 37) (v := ?_) (a' := ?_) #[true, true, true, true, true, true, true, false, false, false, false, false, false, false] rfl rfl (take_ofW HT_.out HW_.out (by kernel_rfl)) (fun _ _ _ h => h) (Or.inl ⟨by rfl, ?_⟩) hHeld ?_ ?_
       rotate_left
       ·
        rintro w' ⟨s0, s1, s2⟩
        go_simp
        with_reducible rfl
       rotate_left
       ·
        simp only [Act.put, List.setIfInBounds_toArray, List.set_cons_zero, List.set_cons_succ, i64_w, i32_w]
        rfl
       refine join_ (σ := Nat) 2 #[true, true, true, true, true, true, true, true, true, true, true, true, false, false] (fun s_ => [(41, .tuple #[.agg #[.string t135, .int .u64 t136, .int .u64 t137], .int .i64 t138]), (11, .pointer (some ⟨s_, 0, none⟩)), (33, .tuple #[.agg #[.string t135, .int .u64 t136, .int .u64 t137], .int .i64 t138]), (42, .agg #[.string t135, .int .u64 t136, .int .u64 t137]), (43, .int .i64 t138)]) (fun s_ w' => (w'.cell? ad130 = some (.string ((rd_TNode l1 0).f0)) ∧ w'.cell? ⟨ad130.block, ad130.off + 1, none⟩ = some (.int .u64 ((rd_TNode l1 0).f1.f0)) ∧ w'.cell? ⟨ad130.block, ad130.off + 2, none⟩ = some (.int .u64 ((rd_TNode l1 0).f1.f1))) ∧ (w'.heap[gb124]? = some (.cells #[.int .u64 t121, .int .u64 t122] 26 (0, 0))) ∧ (w'.heap[gb129]? = some (.cells #[.string t125, .int .u64 t126, .int .u64 t127] 28 (0, 0))) ∧ (w'.heap[s_]? = some (.cells #[.string (⟨#[]⟩ : ByteArray), .int .u64 0, .int .u64 0] 28 (0, 0))) ∧ (w.heap.size ≤ s_) ∧ (w.heap.size ≤ s_) ∧ (gb124 ≠ s_) ∧ (s_ ≠ gb124) ∧ (gb129 ≠ s_) ∧ (s_ ≠ gb129) ∧ (Below w.heap.size w w')) ?_ ?_
       rotate_left
       ·
        intro hCont
        refine two_ (i := 7) (j := 11) (Ni := some 41) (Nj := some 11) #[true, true, true, true, true, true, true, true, false, false, false, false, false, false] #[true, true, true, true, true, true, true, false, false, false, false, true, false, false] rfl rfl rfl rfl (two_of HT_.out (by kernel_rfl)) (by decide) (by decide) (fun K hK => ?_) (fun K hK => ?_)
        ·
         skip
         refine goes_ Tryd.func19 (by kernel_rfl) rfl #[.int .i64 a0, .agg #[.string ((rd_TNode l1 0).f0), .int .u64 ((rd_TNode l1 0).f1.f0), .int .u64 ((rd_TNode l1 0).f1.f1)], .int .u64 a2, .slice A26 y131.length c26] (by rfl) rfl rfl (by (try simp only [List.map_toArray, List.map_cons, List.map_nil]); first | done | rfl | (simp only [List.length_drop, List.length_take]; rfl)) ?_
         with_reducible refine (node_Climb.calls a0 ((rd_TNode l1 0).f0) ((rd_TNode l1 0).f1.f0) ((rd_TNode l1 0).f1.f1) a2 _ _ y131 t135 t136 t137 t138 _ ?side1 ?side2 ?side3 A15.out).mono ?_
         (case side1 => exact Laid.below HLD.out (by repeat (first | (with_reducible first | exact HB.out | apply below_alloc | apply pw_below_drewN | apply below_drew1 | refine below_set ?_ GE124.out | refine below_set ?_ GE129.out) | exact HB.out)))
         (case side2 => repeat (first | exact (Kd.C_below HR134.out HB.out) | (with_reducible refine Kd.C_alloc ?_ _) | (with_reducible refine Kd.C_drewN ?_ _) | (with_reducible refine Kd.C_drew ?_)))
         (case side3 => exact HC134.out)
         rintro e w27 ⟨rfl, hb⟩
         refine ⟨_, rfl, ?_⟩
         have n0_ := aM' (blk_below (g := gb124) (o := .cells #[.int .u64 t121, .int .u64 t122] 26 (0, 0)) (by (with_reducible repeat (first | refine blk_drewN ?_ _ | refine blk_drew ?_ | refine blk_alloc ?_ _)); exact BK124.out) hb)
         have n1_ := aM' (blk_below (g := gb129) (o := .cells #[.string t125, .int .u64 t126, .int .u64 t127] 28 (0, 0)) (by (with_reducible repeat (first | refine blk_drewN ?_ _ | refine blk_drew ?_ | refine blk_alloc ?_ _)); exact BK129.out) hb)
         have n2_ := aM' (below_step (by repeat (first | (with_reducible first | exact HB.out | apply below_alloc | apply pw_below_drewN | apply below_drew1 | refine below_set ?_ GE124.out | refine below_set ?_ GE129.out) | exact HB.out)) hb)
         clear BK124
         clear BK129
         clear HB
         have BK124 := n0_
         have BK129 := n1_
         have HB := n2_
         clear n0_ n1_ n2_
         (try clear hb)
         (try clear hb2)
         (try clear hk)
         (try clear hi)
         refine hK.out _ _ ⟨((HB.out.cell (bL' w _ hw130_0)).trans hw130_0), ((HB.out.cell (bL' w _ hw130_1)).trans hw130_1), ((HB.out.cell (bL' w _ hw130_2)).trans hw130_2)⟩ (fun hHeld => ?_)
         clear hK K
         refine norm_ (a' := ?_) ?_ ?_
         rotate_left
         ·
          show Act.put _ (some 41) _ = _
          simp only [Act.put, List.setIfInBounds_toArray, List.set_cons_zero, List.set_cons_succ, i64_w, i32_w]
          rfl
         refine pure_ (i := 8) (N := some 33) (v := ?_) (a' := ?_) #[true, true, true, true, true, true, true, true, true, false, false, false, false, false] rfl rfl (any_of HT_.out (by kernel_rfl)) (fun _ _ _ h => h) (Or.inl ⟨by rfl, ?_⟩) ?_ ?_
         rotate_left
         ·
          intro w'
          go_simp
          with_reducible rfl
         rotate_left
         ·
          simp only [Act.put, List.setIfInBounds_toArray, List.set_cons_zero, List.set_cons_succ, i64_w, i32_w]
          rfl
         refine pure_ (i := 9) (N := some 42) (v := ?_) (a' := ?_) #[true, true, true, true, true, true, true, true, true, true, false, false, false, false] rfl rfl (any_of HT_.out (by kernel_rfl)) (fun _ _ _ h => h) (Or.inl ⟨by rfl, ?_⟩) ?_ ?_
         rotate_left
         ·
          intro w'
          go_simp
          with_reducible rfl
         rotate_left
         ·
          simp only [Act.put, List.setIfInBounds_toArray, List.set_cons_zero, List.set_cons_succ, i64_w, i32_w]
          rfl
         refine pure_ (i := 10) (N := some 43) (v := ?_) (a' := ?_) #[true, true, true, true, true, true, true, true, true, true, true, false, false, false] rfl rfl (any_of HT_.out (by kernel_rfl)) (fun _ _ _ h => h) (Or.inl ⟨by rfl, ?_⟩) ?_ ?_
         rotate_left
         ·
          intro w'
          go_simp
          with_reducible rfl
         rotate_left
         ·
          simp only [Act.put, List.setIfInBounds_toArray, List.set_cons_zero, List.set_cons_succ, i64_w, i32_w]
          rfl
         refine one_ (i := 11) (N := some 11) #[true, true, true, true, true, true, true, true, true, true, true, true, false, false] rfl rfl (one_of HT_.out (by kernel_rfl)) (by decide) (fun K hK => ?_)
         refine box_step ?hg (N := 11) ?hd (cs := #[.string (⟨#[]⟩ : ByteArray), .int .u64 0, .int .u64 0]) (t := 28) ?hr ?_; (case hd => rfl); (case hg => rfl); (case hr => first | (go_simp; done) | (go_simp; rfl))
         intro gb139 hg w28 hbox hb
         have n0_ := aM' (blk_below (g := gb124) (o := .cells #[.int .u64 t121, .int .u64 t122] 26 (0, 0)) (by (with_reducible repeat (first | refine blk_drewN ?_ _ | refine blk_drew ?_ | refine blk_alloc ?_ _)); exact BK124.out) hb)
         have n1_ := aM' (blk_below (g := gb129) (o := .cells #[.string t125, .int .u64 t126, .int .u64 t127] 28 (0, 0)) (by (with_reducible repeat (first | refine blk_drewN ?_ _ | refine blk_drew ?_ | refine blk_alloc ?_ _)); exact BK129.out) hb)
         have n2_ := aM' (below_step (by repeat (first | (with_reducible first | exact HB.out | apply below_alloc | apply pw_below_drewN | apply below_drew1 | refine below_set ?_ GE124.out | refine below_set ?_ GE129.out) | exact HB.out)) hb)
         have n3_ := aM' (hbox)
         have n4_ := aM' ((by rw [hg]; exact (below_size (by repeat (first | (with_reducible first | exact HB.out | apply below_alloc | apply pw_below_drewN | apply below_drew1 | refine below_set ?_ GE124.out | refine below_set ?_ GE129.out) | exact HB.out))) : w.heap.size ≤ gb139))
         have n5_ := aM' ((by rw [hg]; exact (below_size (by repeat (first | (with_reducible first | exact HB.out | apply below_alloc | apply pw_below_drewN | apply below_drew1 | refine below_set ?_ GE124.out | refine below_set ?_ GE129.out) | exact HB.out))) : w.heap.size ≤ gb139))
         have n6_ := aM' ((by rw [hg]; exact Nat.ne_of_lt (blk_lt (g := gb124) (o := .cells #[.int .u64 t121, .int .u64 t122] 26 (0, 0)) (by (with_reducible repeat (first | refine blk_drewN ?_ _ | refine blk_drew ?_ | refine blk_alloc ?_ _)); exact BK124.out)) : gb124 ≠ gb139))
         have n7_ := aM' ((by rw [hg]; exact Nat.ne_of_gt (blk_lt (g := gb124) (o := .cells #[.int .u64 t121, .int .u64 t122] 26 (0, 0)) (by (with_reducible repeat (first | refine blk_drewN ?_ _ | refine blk_drew ?_ | refine blk_alloc ?_ _)); exact BK124.out)) : gb139 ≠ gb124))
         have n8_ := aM' ((by rw [hg]; exact Nat.ne_of_lt (blk_lt (g := gb129) (o := .cells #[.string t125, .int .u64 t126, .int .u64 t127] 28 (0, 0)) (by (with_reducible repeat (first | refine blk_drewN ?_ _ | refine blk_drew ?_ | refine blk_alloc ?_ _)); exact BK129.out)) : gb129 ≠ gb139))
         have n9_ := aM' ((by rw [hg]; exact Nat.ne_of_gt (blk_lt (g := gb129) (o := .cells #[.string t125, .int .u64 t126, .int .u64 t127] 28 (0, 0)) (by (with_reducible repeat (first | refine blk_drewN ?_ _ | refine blk_drew ?_ | refine blk_alloc ?_ _)); exact BK129.out)) : gb139 ≠ gb129))
         clear BK124
         clear BK129
         clear HB
         have BK124 := n0_
         have BK129 := n1_
         have HB := n2_
         have BK139 := n3_
         have GW139 := n4_
         have GE139 := n5_
         have NB124_139 := n6_
         have NB139_124 := n7_
         have NB129_139 := n8_
         have NB139_129 := n9_
         clear n0_ n1_ n2_ n3_ n4_ n5_ n6_ n7_ n8_ n9_
         clear hb hbox hg
         refine hK.out _ _ ⟨((HB.out.cell (bL' w _ hw130_0)).trans hw130_0), ((HB.out.cell (bL' w _ hw130_1)).trans hw130_1), ((HB.out.cell (bL' w _ hw130_2)).trans hw130_2)⟩ (fun hHeld => ?_)
         clear hK K
         refine norm_ (a' := ?_) ?_ ?_
         rotate_left
         ·
          show Act.put _ (some 11) _ = _
          simp only [Act.put, List.setIfInBounds_toArray, List.set_cons_zero, List.set_cons_succ, i64_w, i32_w]
          rfl
         exact norm_ (by simp only [putAll, Act.put, List.setIfInBounds_toArray, List.set_cons_zero, List.set_cons_succ]) (hCont (gb139) _ ⟨hHeld, (by (with_reducible repeat (first | refine blk_drewN ?_ _ | refine blk_drew ?_ | refine blk_alloc ?_ _)); exact BK124.out), (by (with_reducible repeat (first | refine blk_drewN ?_ _ | refine blk_drew ?_ | refine blk_alloc ?_ _)); exact BK129.out), (by (with_reducible repeat (first | refine blk_drewN ?_ _ | refine blk_drew ?_ | refine blk_alloc ?_ _)); exact BK139.out), GW139.out, GE139.out, NB124_139.out, NB139_124.out, NB129_139.out, NB139_129.out, (by repeat (first | (with_reducible first | exact HB.out | apply below_alloc | apply pw_below_drewN | apply below_drew1 | refine below_set ?_ GE124.out | refine below_set ?_ GE129.out | refine below_set ?_ GE139.out) | exact HB.out))⟩)
        ·
         skip
         refine box_step ?hg (N := 11) ?hd (cs := #[.string (⟨#[]⟩ : ByteArray), .int .u64 0, .int .u64 0]) (t := 28) ?hr ?_; (case hd => rfl); (case hg => rfl); (case hr => first | (go_simp; done) | (go_simp; rfl))
         intro gb139 hg w27 hbox hb
         have n0_ := aM' (blk_below (g := gb124) (o := .cells #[.int .u64 t121, .int .u64 t122] 26 (0, 0)) (by (with_reducible repeat (first | refine blk_drewN ?_ _ | refine blk_drew ?_ | refine blk_alloc ?_ _)); exact BK124.out) hb)
         have n1_ := aM' (blk_below (g := gb129) (o := .cells #[.string t125, .int .u64 t126, .int .u64 t127] 28 (0, 0)) (by (with_reducible repeat (first | refine blk_drewN ?_ _ | refine blk_drew ?_ | refine blk_alloc ?_ _)); exact BK129.out) hb)
         have n2_ := aM' (below_step (by repeat (first | (with_reducible first | exact HB.out | apply below_alloc | apply pw_below_drewN | apply below_drew1 | refine below_set ?_ GE124.out | refine below_set ?_ GE129.out) | exact HB.out)) hb)
         have n3_ := aM' (hbox)
         have n4_ := aM' ((by rw [hg]; exact (below_size (by repeat (first | (with_reducible first | exact HB.out | apply below_alloc | apply pw_below_drewN | apply below_drew1 | refine below_set ?_ GE124.out | refine below_set ?_ GE129.out) | exact HB.out))) : w.heap.size ≤ gb139))
         have n5_ := aM' ((by rw [hg]; exact (below_size (by repeat (first | (with_reducible first | exact HB.out | apply below_alloc | apply pw_below_drewN | apply below_drew1 | refine below_set ?_ GE124.out | refine below_set ?_ GE129.out) | exact HB.out))) : w.heap.size ≤ gb139))
         have n6_ := aM' ((by rw [hg]; exact Nat.ne_of_lt (blk_lt (g := gb124) (o := .cells #[.int .u64 t121, .int .u64 t122] 26 (0, 0)) (by (with_reducible repeat (first | refine blk_drewN ?_ _ | refine blk_drew ?_ | refine blk_alloc ?_ _)); exact BK124.out)) : gb124 ≠ gb139))
         have n7_ := aM' ((by rw [hg]; exact Nat.ne_of_gt (blk_lt (g := gb124) (o := .cells #[.int .u64 t121, .int .u64 t122] 26 (0, 0)) (by (with_reducible repeat (first | refine blk_drewN ?_ _ | refine blk_drew ?_ | refine blk_alloc ?_ _)); exact BK124.out)) : gb139 ≠ gb124))
         have n8_ := aM' ((by rw [hg]; exact Nat.ne_of_lt (blk_lt (g := gb129) (o := .cells #[.string t125, .int .u64 t126, .int .u64 t127] 28 (0, 0)) (by (with_reducible repeat (first | refine blk_drewN ?_ _ | refine blk_drew ?_ | refine blk_alloc ?_ _)); exact BK129.out)) : gb129 ≠ gb139))
         have n9_ := aM' ((by rw [hg]; exact Nat.ne_of_gt (blk_lt (g := gb129) (o := .cells #[.string t125, .int .u64 t126, .int .u64 t127] 28 (0, 0)) (by (with_reducible repeat (first | refine blk_drewN ?_ _ | refine blk_drew ?_ | refine blk_alloc ?_ _)); exact BK129.out)) : gb139 ≠ gb129))
         clear BK124
         clear BK129
         clear HB
         have BK124 := n0_
         have BK129 := n1_
         have HB := n2_
         have BK139 := n3_
         have GW139 := n4_
         have GE139 := n5_
         have NB124_139 := n6_
         have NB139_124 := n7_
         have NB129_139 := n8_
         have NB139_129 := n9_
         clear n0_ n1_ n2_ n3_ n4_ n5_ n6_ n7_ n8_ n9_
         clear hb hbox hg
         refine hK.out _ _ ⟨((HB.out.cell (bL' w _ hw130_0)).trans hw130_0), ((HB.out.cell (bL' w _ hw130_1)).trans hw130_1), ((HB.out.cell (bL' w _ hw130_2)).trans hw130_2)⟩ (fun hHeld => ?_)
         clear hK K
         refine norm_ (a' := ?_) ?_ ?_
         rotate_left
         ·
          show Act.put _ (some 11) _ = _
          simp only [Act.put, List.setIfInBounds_toArray, List.set_cons_zero, List.set_cons_succ, i64_w, i32_w]
          rfl
         refine one_ (i := 7) (N := some 41) #[true, true, true, true, true, true, true, true, false, false, false, true, false, false] rfl rfl (one_of HT_.out (by kernel_rfl)) (by decide) (fun K hK => ?_)
         refine goes_ Tryd.func19 (by kernel_rfl) rfl #[.int .i64 a0, .agg #[.string ((rd_TNode l1 0).f0), .int .u64 ((rd_TNode l1 0).f1.f0), .int .u64 ((rd_TNode l1 0).f1.f1)], .int .u64 a2, .slice A26 y131.length c26] (by rfl) rfl rfl (by (try simp only [List.map_toArray, List.map_cons, List.map_nil]); first | done | rfl | (simp only [List.length_drop, List.length_take]; rfl)) ?_
         with_reducible refine (node_Climb.calls a0 ((rd_TNode l1 0).f0) ((rd_TNode l1 0).f1.f0) ((rd_TNode l1 0).f1.f1) a2 _ _ y131 t135 t136 t137 t138 _ ?side1 ?side2 ?side3 A15.out).mono ?_
         (case side1 => exact Laid.below HLD.out (by repeat (first | (with_reducible first | exact HB.out | apply below_alloc | apply pw_below_drewN | apply below_drew1 | refine below_set ?_ GE124.out | refine below_set ?_ GE129.out | refine below_set ?_ GE139.out) | exact HB.out)))
         (case side2 => repeat (first | exact (Kd.C_below HR134.out HB.out) | (with_reducible refine Kd.C_alloc ?_ _) | (with_reducible refine Kd.C_drewN ?_ _) | (with_reducible refine Kd.C_drew ?_)))
         (case side3 => exact HC134.out)
         rintro e w28 ⟨rfl, hb⟩
         refine ⟨_, rfl, ?_⟩
         have n0_ := aM' (blk_below (g := gb124) (o := .cells #[.int .u64 t121, .int .u64 t122] 26 (0, 0)) (by (with_reducible repeat (first | refine blk_drewN ?_ _ | refine blk_drew ?_ | refine blk_alloc ?_ _)); exact BK124.out) hb)
         have n1_ := aM' (blk_below (g := gb129) (o := .cells #[.string t125, .int .u64 t126, .int .u64 t127] 28 (0, 0)) (by (with_reducible repeat (first | refine blk_drewN ?_ _ | refine blk_drew ?_ | refine blk_alloc ?_ _)); exact BK129.out) hb)
         have n2_ := aM' (blk_below (g := gb139) (o := .cells #[.string (⟨#[]⟩ : ByteArray), .int .u64 0, .int .u64 0] 28 (0, 0)) (by (with_reducible repeat (first | refine blk_drewN ?_ _ | refine blk_drew ?_ | refine blk_alloc ?_ _)); exact BK139.out) hb)
         have n3_ := aM' (below_step (by repeat (first | (with_reducible first | exact HB.out | apply below_alloc | apply pw_below_drewN | apply below_drew1 | refine below_set ?_ GE124.out | refine below_set ?_ GE129.out | refine below_set ?_ GE139.out) | exact HB.out)) hb)
         clear BK124
         clear BK129
         clear BK139
         clear HB
         have BK124 := n0_
         have BK129 := n1_
         have BK139 := n2_
         have HB := n3_
         clear n0_ n1_ n2_ n3_
         (try clear hb)
         (try clear hb2)
         (try clear hk)
         (try clear hi)
         refine hK.out _ _ ⟨((HB.out.cell (bL' w _ hw130_0)).trans hw130_0), ((HB.out.cell (bL' w _ hw130_1)).trans hw130_1), ((HB.out.cell (bL' w _ hw130_2)).trans hw130_2)⟩ (fun hHeld => ?_)
         clear hK K
         refine norm_ (a' := ?_) ?_ ?_
         rotate_left
         ·
          show Act.put _ (some 41) _ = _
          simp only [Act.put, List.setIfInBounds_toArray, List.set_cons_zero, List.set_cons_succ, i64_w, i32_w]
          rfl
         refine pure_ (i := 8) (N := some 33) (v := ?_) (a' := ?_) #[true, true, true, true, true, true, true, true, true, false, false, true, false, false] rfl rfl (any_of HT_.out (by kernel_rfl)) (fun _ _ _ h => h) (Or.inl ⟨by rfl, ?_⟩) ?_ ?_
         rotate_left
         ·
          intro w'
          go_simp
          with_reducible rfl
         rotate_left
         ·
          simp only [Act.put, List.setIfInBounds_toArray, List.set_cons_zero, List.set_cons_succ, i64_w, i32_w]
          rfl
         refine pure_ (i := 9) (N := some 42) (v := ?_) (a' := ?_) #[true, true, true, true, true, true, true, true, true, true, false, true, false, false] rfl rfl (any_of HT_.out (by kernel_rfl)) (fun _ _ _ h => h) (Or.inl ⟨by rfl, ?_⟩) ?_ ?_
         rotate_left
         ·
          intro w'
          go_simp
          with_reducible rfl
         rotate_left
         ·
          simp only [Act.put, List.setIfInBounds_toArray, List.set_cons_zero, List.set_cons_succ, i64_w, i32_w]
          rfl
         refine pure_ (i := 10) (N := some 43) (v := ?_) (a' := ?_) #[true, true, true, true, true, true, true, true, true, true, true, true, false, false] rfl rfl (any_of HT_.out (by kernel_rfl)) (fun _ _ _ h => h) (Or.inl ⟨by rfl, ?_⟩) ?_ ?_
         rotate_left
         ·
          intro w'
          go_simp
          with_reducible rfl
         rotate_left
         ·
          simp only [Act.put, List.setIfInBounds_toArray, List.set_cons_zero, List.set_cons_succ, i64_w, i32_w]
          rfl
         exact norm_ (by simp only [putAll, Act.put, List.setIfInBounds_toArray, List.set_cons_zero, List.set_cons_succ]) (hCont (gb139) _ ⟨hHeld, (by (with_reducible repeat (first | refine blk_drewN ?_ _ | refine blk_drew ?_ | refine blk_alloc ?_ _)); exact BK124.out), (by (with_reducible repeat (first | refine blk_drewN ?_ _ | refine blk_drew ?_ | refine blk_alloc ?_ _)); exact BK129.out), (by (with_reducible repeat (first | refine blk_drewN ?_ _ | refine blk_drew ?_ | refine blk_alloc ?_ _)); exact BK139.out), GW139.out, GE139.out, NB124_139.out, NB139_124.out, NB129_139.out, NB139_129.out, (by repeat (first | (with_reducible first | exact HB.out | apply below_alloc | apply pw_below_drewN | apply below_drew1 | refine below_set ?_ GE124.out | refine below_set ?_ GE129.out | refine below_set ?_ GE139.out) | exact HB.out))⟩)
       rintro gb139 w29 ⟨hS_, h0_, h1_, h2_, h3_, h4_, h5_, h6_, h7_, h8_, h9_⟩
       have n0_ : Aside0 (w29.heap[gb124]? = some (.cells #[.int .u64 t121, .int .u64 t122] 26 (0, 0))) := ⟨h0_⟩
       have n1_ : Aside0 (w29.heap[gb129]? = some (.cells #[.string t125, .int .u64 t126, .int .u64 t127] 28 (0, 0))) := ⟨h1_⟩
       have n2_ : Aside0 (w29.heap[gb139]? = some (.cells #[.string (⟨#[]⟩ : ByteArray), .int .u64 0, .int .u64 0] 28 (0, 0))) := ⟨h2_⟩
       have n3_ : Aside0 (w.heap.size ≤ gb139) := ⟨h3_⟩
       have n4_ : Aside0 (w.heap.size ≤ gb139) := ⟨h4_⟩
       have n5_ : Aside0 (gb124 ≠ gb139) := ⟨h5_⟩
       have n6_ : Aside0 (gb139 ≠ gb124) := ⟨h6_⟩
       have n7_ : Aside0 (gb129 ≠ gb139) := ⟨h7_⟩
       have n8_ : Aside0 (gb139 ≠ gb129) := ⟨h8_⟩
       have n9_ : Aside0 (Below w.heap.size w w29) := ⟨h9_⟩
       clear BK124
       clear BK129
       clear HB
       clear h0_ h1_ h2_ h3_ h4_ h5_ h6_ h7_ h8_ h9_
       have BK124 := n0_
       have BK129 := n1_
       have BK139 := n2_
       have GW139 := n3_
       have GE139 := n4_
       have NB124_139 := n5_
       have NB139_124 := n6_
       have NB129_139 := n7_
       have NB139_129 := n8_
       have HB := n9_
       clear n0_ n1_ n2_ n3_ n4_ n5_ n6_ n7_ n8_ n9_
       have hHeld : w29.cell? ad130 = some (.string ((rd_TNode l1 0).f0)) ∧ w29.cell? ⟨ad130.block, ad130.off + 1, none⟩ = some (.int .u64 ((rd_TNode l1 0).f1.f0)) ∧ w29.cell? ⟨ad130.block, ad130.off + 2, none⟩ = some (.int .u64 ((rd_TNode l1 0).f1.f1)) := hS_
       refine norm_ (a' := ?_) ?_ ?_
       rotate_left
       ·
        simp only [putAll, Act.put, List.setIfInBounds_toArray, List.set_cons_zero, List.set_cons_succ]
        rfl
       refine one_ (i := 12) (N := none) #[true, true, true, true, true, true, true, true, true, true, true, true, true, false] rfl rfl (one_of HT_.out (by kernel_rfl)) (by decide) (fun K hK => ?_)
       have hs30 : w29.cell? ⟨gb139, 0, none⟩ = some (.string (⟨#[]⟩ : ByteArray)) := (blk_cell BK139.out 0).trans rfl
       have hfs30 := blk_frozen BK139.out 0
       have hns30_0 := NB124_139.out
       have hns30_1 := NB129_139.out
       have hms30_0 := NB139_124.out
       have hms30_1 := NB139_129.out
       have hs31 : w29.cell? ⟨gb139, 1, none⟩ = some (.int .u64 0) := (blk_cell BK139.out 1).trans rfl
       have hfs31 := blk_frozen BK139.out 1
       have hns31_0 := NB124_139.out
       have hns31_1 := NB129_139.out
       have hms31_0 := NB139_124.out
       have hms31_1 := NB139_129.out
       have hs32 : w29.cell? ⟨gb139, 2, none⟩ = some (.int .u64 0) := (blk_cell BK139.out 2).trans rfl
       have hfs32 := blk_frozen BK139.out 2
       have hns32_0 := NB124_139.out
       have hns32_1 := NB129_139.out
       have hms32_0 := NB139_124.out
       have hms32_1 := NB139_129.out
       refine skip_ (w1 := ?_) (by rfl) rfl ?_ ?_
       rotate_left
       ·
        go_simp
        rfl
       refine hK.out _ _ ⟨((cell_far (p := ⟨gb139, _, none⟩) (by first | exact Nat.ne_of_lt (lL' (by have := bL' _ _ hw130_0; first | rwa [add_block] at this | exact this) GW139.out) | (rw [add_block]; exact Nat.ne_of_lt (lL' (by have := bL' _ _ hw130_0; first | rwa [add_block] at this | exact this) GW139.out)) | (show (Addr.add _ _).block ≠ _; rw [add_block]; exact Nat.ne_of_lt (lL' (by have := bL' _ _ hw130_0; first | rwa [add_block] at this | exact this) GW139.out)) | (dsimp only; exact Nat.ne_of_lt (lL' (by have := bL' _ _ hw130_0; first | rwa [add_block] at this | exact this) GW139.out))) _).trans (((cell_far (p := ⟨gb139, _, none⟩) (by first | exact Nat.ne_of_lt (lL' (by have := bL' _ _ hw130_0; first | rwa [add_block] at this | exact this) GW139.out) | (rw [add_block]; exact Nat.ne_of_lt (lL' (by have := bL' _ _ hw130_0; first | rwa [add_block] at this | exact this) GW139.out)) | (show (Addr.add _ _).block ≠ _; rw [add_block]; exact Nat.ne_of_lt (lL' (by have := bL' _ _ hw130_0; first | rwa [add_block] at this | exact this) GW139.out)) | (dsimp only; exact Nat.ne_of_lt (lL' (by have := bL' _ _ hw130_0; first | rwa [add_block] at this | exact this) GW139.out))) _).trans (((cell_far (p := ⟨gb139, _, none⟩) (by first | exact Nat.ne_of_lt (lL' (by have := bL' _ _ hw130_0; first | rwa [add_block] at this | exact this) GW139.out) | (rw [add_block]; exact Nat.ne_of_lt (lL' (by have := bL' _ _ hw130_0; first | rwa [add_block] at this | exact this) GW139.out)) | (show (Addr.add _ _).block ≠ _; rw [add_block]; exact Nat.ne_of_lt (lL' (by have := bL' _ _ hw130_0; first | rwa [add_block] at this | exact this) GW139.out)) | (dsimp only; exact Nat.ne_of_lt (lL' (by have := bL' _ _ hw130_0; first | rwa [add_block] at this | exact this) GW139.out))) _).trans (hHeld.1)))))), ((cell_far (p := ⟨gb139, _, none⟩) (by first | exact Nat.ne_of_lt (lL' (by have := bL' _ _ hw130_1; first | rwa [add_block] at this | exact this) GW139.out) | (rw [add_block]; exact Nat.ne_of_lt (lL' (by have := bL' _ _ hw130_1; first | rwa [add_block] at this | exact this) GW139.out)) | (show (Addr.add _ _).block ≠ _; rw [add_block]; exact Nat.ne_of_lt (lL' (by have := bL' _ _ hw130_1; first | rwa [add_block] at this | exact this) GW139.out)) | (dsimp only; exact Nat.ne_of_lt (lL' (by have := bL' _ _ hw130_1; first | rwa [add_block] at this | exact this) GW139.out))) _).trans (((cell_far (p := ⟨gb139, _, none⟩) (by first | exact Nat.ne_of_lt (lL' (by have := bL' _ _ hw130_1; first | rwa [add_block] at this | exact this) GW139.out) | (rw [add_block]; exact Nat.ne_of_lt (lL' (by have := bL' _ _ hw130_1; first | rwa [add_block] at this | exact this) GW139.out)) | (show (Addr.add _ _).block ≠ _; rw [add_block]; exact Nat.ne_of_lt (lL' (by have := bL' _ _ hw130_1; first | rwa [add_block] at this | exact this) GW139.out)) | (dsimp only; exact Nat.ne_of_lt (lL' (by have := bL' _ _ hw130_1; first | rwa [add_block] at this | exact this) GW139.out))) _).trans (((cell_far (p := ⟨gb139, _, none⟩) (by first | exact Nat.ne_of_lt (lL' (by have := bL' _ _ hw130_1; first | rwa [add_block] at this | exact this) GW139.out) | (rw [add_block]; exact Nat.ne_of_lt (lL' (by have := bL' _ _ hw130_1; first | rwa [add_block] at this | exact this) GW139.out)) | (show (Addr.add _ _).block ≠ _; rw [add_block]; exact Nat.ne_of_lt (lL' (by have := bL' _ _ hw130_1; first | rwa [add_block] at this | exact this) GW139.out)) | (dsimp only; exact Nat.ne_of_lt (lL' (by have := bL' _ _ hw130_1; first | rwa [add_block] at this | exact this) GW139.out))) _).trans (hHeld.2.1)))))), ((cell_far (p := ⟨gb139, _, none⟩) (by first | exact Nat.ne_of_lt (lL' (by have := bL' _ _ hw130_2; first | rwa [add_block] at this | exact this) GW139.out) | (rw [add_block]; exact Nat.ne_of_lt (lL' (by have := bL' _ _ hw130_2; first | rwa [add_block] at this | exact this) GW139.out)) | (show (Addr.add _ _).block ≠ _; rw [add_block]; exact Nat.ne_of_lt (lL' (by have := bL' _ _ hw130_2; first | rwa [add_block] at this | exact this) GW139.out)) | (dsimp only; exact Nat.ne_of_lt (lL' (by have := bL' _ _ hw130_2; first | rwa [add_block] at this | exact this) GW139.out))) _).trans (((cell_far (p := ⟨gb139, _, none⟩) (by first | exact Nat.ne_of_lt (lL' (by have := bL' _ _ hw130_2; first | rwa [add_block] at this | exact this) GW139.out) | (rw [add_block]; exact Nat.ne_of_lt (lL' (by have := bL' _ _ hw130_2; first | rwa [add_block] at this | exact this) GW139.out)) | (show (Addr.add _ _).block ≠ _; rw [add_block]; exact Nat.ne_of_lt (lL' (by have := bL' _ _ hw130_2; first | rwa [add_block] at this | exact this) GW139.out)) | (dsimp only; exact Nat.ne_of_lt (lL' (by have := bL' _ _ hw130_2; first | rwa [add_block] at this | exact this) GW139.out))) _).trans (((cell_far (p := ⟨gb139, _, none⟩) (by first | exact Nat.ne_of_lt (lL' (by have := bL' _ _ hw130_2; first | rwa [add_block] at this | exact this) GW139.out) | (rw [add_block]; exact Nat.ne_of_lt (lL' (by have := bL' _ _ hw130_2; first | rwa [add_block] at this | exact this) GW139.out)) | (show (Addr.add _ _).block ≠ _; rw [add_block]; exact Nat.ne_of_lt (lL' (by have := bL' _ _ hw130_2; first | rwa [add_block] at this | exact this) GW139.out)) | (dsimp only; exact Nat.ne_of_lt (lL' (by have := bL' _ _ hw130_2; first | rwa [add_block] at this | exact this) GW139.out))) _).trans (hHeld.2.2))))))⟩ (fun hHeld => ?_)
       clear hK K
       refine pure_ (i := 13) (N := some 12) (v := ?_) (a' := ?_) #[true, true, true, true, true, true, true, true, true, true, true, true, true, true] rfl rfl (any_of HT_.out (by kernel_rfl)) (fun _ _ _ h => h) (Or.inl ⟨by rfl, ?_⟩) ?_ ?_
       rotate_left
       ·
        intro w'
        go_simp
        with_reducible rfl
       rotate_left
       ·
        simp only [Act.put, List.setIfInBounds_toArray, List.set_cons_zero, List.set_cons_succ, i64_w, i32_w]
        rfl
       refine done_ (done_of HT_.out (by kernel_rfl)) ?_
       go_upto_region 8 with (fail)
       go_cut [49] (fun v49 wc => ∃ (kq : Nat) (x49_15 : Bool), v49 = .bool x49_15 ∧ Aside0 (paymasterlaw14_NodeSums.j1 kq a0 l1 t123 t128 t138 x49_15 t121 t122 t125 t126 t127 t135 t136 t137 = some r) ∧ Aside0 (kq ≤ kj5) ∧ Aside0 (wc.heap[gb124]? = some (.cells #[.int .u64 t121, .int .u64 t122] 26 (0, 0))) ∧ Aside0 (wc.heap[gb129]? = some (.cells #[.string t125, .int .u64 t126, .int .u64 t127] 28 (0, 0))) ∧ Aside0 (wc.heap[gb139]? = some (.cells #[.string t135, .int .u64 t136, .int .u64 t137] 28 (0, 0))) ∧ Aside0 (Below w.heap.size w wc))
       case first =>
        have H := HC16.out
        clear HC16
        by_cases c33 : t128 = 70
        ·
         rw [if_pos c33] at H
         have c33b0 : (t128 == 70) = true := beq_iff_eq.mpr c33
         have c33b1 : (t128 != 70) = false := bne_eq_false_iff_eq.mpr c33
         clear c33
         (first | rw [c33b0] | (simp only [i64_w, i32_w]; rw [c33b0]) | skip)
         have H' := aM' H
         clear H
         go_wp2
         go_meet
         case rel => exact ⟨_, (true), (by first | rfl | (simp; done) | (simp [*]; done)), H', ⟨by have := HJ5.out; first | omega | exact Nat.le_refl _⟩, ⟨by (with_reducible repeat (first | refine blk_drewN ?_ _ | refine blk_drew ?_ | refine blk_alloc ?_ _)); refine blk_far ?_ NB124_139.out _; (with_reducible repeat (first | refine blk_drewN ?_ _ | refine blk_drew ?_ | refine blk_alloc ?_ _)); refine blk_far ?_ NB124_139.out _; (with_reducible repeat (first | refine blk_drewN ?_ _ | refine blk_drew ?_ | refine blk_alloc ?_ _)); refine blk_far ?_ NB124_139.out _; (with_reducible repeat (first | refine blk_drewN ?_ _ | refine blk_drew ?_ | refine blk_alloc ?_ _)); exact BK124.out⟩, ⟨by (with_reducible repeat (first | refine blk_drewN ?_ _ | refine blk_drew ?_ | refine blk_alloc ?_ _)); refine blk_far ?_ NB129_139.out _; (with_reducible repeat (first | refine blk_drewN ?_ _ | refine blk_drew ?_ | refine blk_alloc ?_ _)); refine blk_far ?_ NB129_139.out _; (with_reducible repeat (first | refine blk_drewN ?_ _ | refine blk_drew ?_ | refine blk_alloc ?_ _)); refine blk_far ?_ NB129_139.out _; (with_reducible repeat (first | refine blk_drewN ?_ _ | refine blk_drew ?_ | refine blk_alloc ?_ _)); exact BK129.out⟩, ⟨by (with_reducible repeat (first | refine blk_drewN ?_ _ | refine blk_drew ?_ | refine blk_alloc ?_ _)); refine blk_put (cs := #[.string t135, .int .u64 t136, .int .u64 0]) ?_ 2 _ rfl; (with_reducible repeat (first | refine blk_drewN ?_ _ | refine blk_drew ?_ | refine blk_alloc ?_ _)); refine blk_put (cs := #[.string t135, .int .u64 0, .int .u64 0]) ?_ 1 _ rfl; (with_reducible repeat (first | refine blk_drewN ?_ _ | refine blk_drew ?_ | refine blk_alloc ?_ _)); refine blk_put (cs := #[.string (⟨#[]⟩ : ByteArray), .int .u64 0, .int .u64 0]) ?_ 0 _ rfl; (with_reducible repeat (first | refine blk_drewN ?_ _ | refine blk_drew ?_ | refine blk_alloc ?_ _)); exact BK139.out⟩, ⟨by repeat (first | (with_reducible first | exact HB.out | apply below_alloc | apply pw_below_drewN | apply below_drew1 | refine below_set ?_ GE124.out | refine below_set ?_ GE129.out | refine below_set ?_ GE139.out) | exact HB.out)⟩⟩
        ·
         rw [if_neg c33] at H
         have c33b0 : (t128 == 70) = false := beq_eq_false_iff_ne.mpr c33
         have c33b1 : (t128 != 70) = true := bne_iff_ne.mpr c33
         (first | rw [c33b0] | (simp only [i64_w, i32_w]; rw [c33b0]) | skip)
         have H' := aM' H
         clear H
         go_wp2
         go_meet
         case rel => exact ⟨_, ((t138 == 70)), (by first | rfl | (simp; done) | (simp [*]; done)), H', ⟨by have := HJ5.out; first | omega | exact Nat.le_refl _⟩, ⟨by (with_reducible repeat (first | refine blk_drewN ?_ _ | refine blk_drew ?_ | refine blk_alloc ?_ _)); refine blk_far ?_ NB124_139.out _; (with_reducible repeat (first | refine blk_drewN ?_ _ | refine blk_drew ?_ | refine blk_alloc ?_ _)); refine blk_far ?_ NB124_139.out _; (with_reducible repeat (first | refine blk_drewN ?_ _ | refine blk_drew ?_ | refine blk_alloc ?_ _)); refine blk_far ?_ NB124_139.out _; (with_reducible repeat (first | refine blk_drewN ?_ _ | refine blk_drew ?_ | refine blk_alloc ?_ _)); exact BK124.out⟩, ⟨by (with_reducible repeat (first | refine blk_drewN ?_ _ | refine blk_drew ?_ | refine blk_alloc ?_ _)); refine blk_far ?_ NB129_139.out _; (with_reducible repeat (first | refine blk_drewN ?_ _ | refine blk_drew ?_ | refine blk_alloc ?_ _)); refine blk_far ?_ NB129_139.out _; (with_reducible repeat (first | refine blk_drewN ?_ _ | refine blk_drew ?_ | refine blk_alloc ?_ _)); refine blk_far ?_ NB129_139.out _; (with_reducible repeat (first | refine blk_drewN ?_ _ | refine blk_drew ?_ | refine blk_alloc ?_ _)); exact BK129.out⟩, ⟨by (with_reducible repeat (first | refine blk_drewN ?_ _ | refine blk_drew ?_ | refine blk_alloc ?_ _)); refine blk_put (cs := #[.string t135, .int .u64 t136, .int .u64 0]) ?_ 2 _ rfl; (with_reducible repeat (first | refine blk_drewN ?_ _ | refine blk_drew ?_ | refine blk_alloc ?_ _)); refine blk_put (cs := #[.string t135, .int .u64 0, .int .u64 0]) ?_ 1 _ rfl; (with_reducible repeat (first | refine blk_drewN ?_ _ | refine blk_drew ?_ | refine blk_alloc ?_ _)); refine blk_put (cs := #[.string (⟨#[]⟩ : ByteArray), .int .u64 0, .int .u64 0]) ?_ 0 _ rfl; (with_reducible repeat (first | refine blk_drewN ?_ _ | refine blk_drew ?_ | refine blk_alloc ?_ _)); exact BK139.out⟩, ⟨by repeat (first | (with_reducible first | exact HB.out | apply below_alloc | apply pw_below_drewN | apply below_drew1 | refine below_set ?_ GE124.out | refine below_set ?_ GE129.out | refine below_set ?_ GE139.out) | exact HB.out)⟩⟩
       case rest =>
        clear HC16
        try clear c1
        try clear p1
        try clear q1
        try clear hx1
        try clear qi1
        try clear c2
        try clear p2
        try clear q2
        try clear c3
        try clear c4
        try clear c5
        try clear c9
        try clear c10
        try clear c13
        try clear c13b0
        try clear c13b1
        try clear p13
        try clear q13
        try clear hx13
        try clear qi13
        try clear c14
        try clear c14b0
        try clear c14b1
        try clear c17
        try clear c18
        try clear c19
        try clear c22
        try clear c26
        try clear q26
        try clear c33
        try clear c33b0
        try clear c33b1
        try clear hcz19_0
        try clear hcz19_1
        try clear hcz23_0
        try clear hcz23_1
        try clear hcz23_2
        try clear hfz19_0
        try clear hfz19_1
        try clear hfz23_0
        try clear hfz23_1
        try clear hfz23_2
        try clear hx130_0
        try clear hx130_1
        try clear hx130_2
        try clear p130
        try clear p2
        try clear q130
        try clear q26
        obtain ⟨kq, x49_15, rfl, HA, HJ15, BK124, BK129, BK139, HB⟩ := hcut
        cases kq with
        | zero => exact absurd HA.out (by simp [paymasterlaw14_NodeSums.j1])
        | succ kj15 =>
         have H := HA.out
         clear HA
         simp only [paymasterlaw14_NodeSums.j1] at H
         by_cases c34 : x49_15 = true
         ·
          subst c34
          have H1 : (if t128 = t138 then (if (t125.toList == ([] : List UInt8) && ((t126 == 0 && (t127 == 0)))) = true then (some (t135.toList == ([] : List UInt8) && ((t136 == 0 && (t137 == 0))))) else (some false)) else (some false)) = some r := by rw [if_pos rfl] at H; exact H
          clear H
          have H := H1
          clear H1
          by_cases c35 : t128 = t138
          ·
           rw [if_pos c35] at H
           have c35b0 : (t128 == t138) = true := beq_iff_eq.mpr c35
           have c35b1 : (t128 != t138) = false := bne_eq_false_iff_eq.mpr c35
           clear c35
           by_cases c36 : (t125.toList == ([] : List UInt8) && ((t126 == 0 && (t127 == 0)))) = true
           ·
            rw [if_pos c36] at H
            have c36b0 : (t125.toList == ([] : List UInt8) && ((t126 == 0 && (t127 == 0)))) = true := c36
            (try (have c36b1 : decide (t125.toList = ([] : List UInt8) && ((t126 == 0 && (t127 == 0)))) = true := by simpa using c36))
            (try (have c36b2 : (t125.toList == ([] : List UInt8) && ((t126 == 0 && (t127 == 0)))) = true := by simpa using c36))
            have c36s := aM' (show t125.toList = [] ∧ t126 = 0 ∧ t127 = 0 by simpa using c36)
            clear c36
            obtain rfl := Option.some.inj H
            have hnb37 := NB129_124.out
            have hnc37 := NB124_129.out
            have hnb38 := NB129_139.out
            have hnc38 := NB139_129.out
            have hcz39_0 : wc.cell? ⟨gb129, 0, none⟩ = some (.string t125) := (blk_cell BK129.out 0).trans rfl
            have hcz39_1 : wc.cell? ⟨gb129, 1, none⟩ = some (.int .u64 t126) := (blk_cell BK129.out 1).trans rfl
            have hcz39_2 : wc.cell? ⟨gb129, 2, none⟩ = some (.int .u64 t127) := (blk_cell BK129.out 2).trans rfl
            have hfz39_0 := blk_frozen BK129.out 0
            have hfz39_1 := blk_frozen BK129.out 1
            have hfz39_2 := blk_frozen BK129.out 2
            have hnb40 := NB139_124.out
            have hnc40 := NB124_139.out
            have hcz41_0 : wc.cell? ⟨gb139, 0, none⟩ = some (.string t135) := (blk_cell BK139.out 0).trans rfl
            have hcz41_1 : wc.cell? ⟨gb139, 1, none⟩ = some (.int .u64 t136) := (blk_cell BK139.out 1).trans rfl
            have hcz41_2 : wc.cell? ⟨gb139, 2, none⟩ = some (.int .u64 t137) := (blk_cell BK139.out 2).trans rfl
            have hfz41_0 := blk_frozen BK139.out 0
            have hfz41_1 := blk_frozen BK139.out 1
            have hfz41_2 := blk_frozen BK139.out 2
            go_wp2
            all_goals first | exact absurd c36s.out (by assumption) | exact absurd (by assumption) c36s.out | skip
            all_goals go_ret
            all_goals exact ⟨by first | rfl | (simp [errW_none, errW_some] <;> rfl) | (simp [*, errW_none, errW_some] <;> rfl), by repeat (first | (with_reducible first | exact HB.out | apply below_alloc | apply pw_below_drewN | apply below_drew1 | refine below_set ?_ GE124.out | refine below_set ?_ GE129.out | refine below_set ?_ GE139.out) | exact HB.out)⟩
           ·
            rw [if_neg c36] at H
            have c36b0 : (t125.toList == ([] : List UInt8) && ((t126 == 0 && (t127 == 0)))) = false := by simpa using c36
            (try (have c36b1 : decide (t125.toList = ([] : List UInt8) && ((t126 == 0 && (t127 == 0)))) = false := by simpa using c36))
            (try (have c36b2 : (t125.toList == ([] : List UInt8) && ((t126 == 0 && (t127 == 0)))) = false := by simpa using c36))
            (try (have c36b3 : ¬ (t125.toList = ([] : List UInt8) && ((t126 == 0 && (t127 == 0)))) := by simpa using c36))
            have c36s := aM' (show ¬ (t125.toList = [] ∧ t126 = 0 ∧ t127 = 0) by simpa using c36)
            clear c36
            obtain rfl := Option.some.inj H
            have hnb42 := NB129_124.out
            have hnc42 := NB124_129.out
            have hnb43 := NB129_139.out
            have hnc43 := NB139_129.out
            have hcz44_0 : wc.cell? ⟨gb129, 0, none⟩ = some (.string t125) := (blk_cell BK129.out 0).trans rfl
            have hcz44_1 : wc.cell? ⟨gb129, 1, none⟩ = some (.int .u64 t126) := (blk_cell BK129.out 1).trans rfl
            have hcz44_2 : wc.cell? ⟨gb129, 2, none⟩ = some (.int .u64 t127) := (blk_cell BK129.out 2).trans rfl
            have hfz44_0 := blk_frozen BK129.out 0
            have hfz44_1 := blk_frozen BK129.out 1
            have hfz44_2 := blk_frozen BK129.out 2
            go_wp2
            all_goals first | exact absurd c36s.out (by assumption) | exact absurd (by assumption) c36s.out | skip
            all_goals go_ret
            all_goals exact ⟨by first | rfl | (simp [errW_none, errW_some] <;> rfl) | (simp [*, errW_none, errW_some] <;> rfl), by repeat (first | (with_reducible first | exact HB.out | apply below_alloc | apply pw_below_drewN | apply below_drew1 | refine below_set ?_ GE124.out | refine below_set ?_ GE129.out | refine below_set ?_ GE139.out) | exact HB.out)⟩
          ·
           rw [if_neg c35] at H
           have c35b0 : (t128 == t138) = false := beq_eq_false_iff_ne.mpr c35
           have c35b1 : (t128 != t138) = true := bne_iff_ne.mpr c35
           obtain rfl := Option.some.inj H
           go_wp2
           go_ret
           exact ⟨by first | rfl | (simp [errW_none, errW_some] <;> rfl) | (simp [*, errW_none, errW_some] <;> rfl), by repeat (first | (with_reducible first | exact HB.out | apply below_alloc | apply pw_below_drewN | apply below_drew1 | refine below_set ?_ GE124.out | refine below_set ?_ GE129.out | refine below_set ?_ GE139.out) | exact HB.out)⟩
         ·
          replace c34 := Bool.eq_false_iff.mpr c34
          subst c34
          have H1 : (if t128 = 0 then (if t123 = true then (if (!(t126 == t121) || (!(t127 == t122))) = true then (paymasterlaw14_NodeSums.j2 kj15 a0 l1 t123 t128 t138 true t125 t126 t127 t135 t136 t137) else (if t138 = 0 then (paymasterlaw14_NodeSums.j2 kj15 a0 l1 t123 t128 t138 (!(t136 == t121) || (!(t137 == t122))) t125 t126 t127 t135 t136 t137) else (paymasterlaw14_NodeSums.j2 kj15 a0 l1 t123 t128 t138 false t125 t126 t127 t135 t136 t137))) else (paymasterlaw14_NodeSums.j2 kj15 a0 l1 t123 t128 t138 true t125 t126 t127 t135 t136 t137)) else (if t138 = 0 then (if t123 = true then (paymasterlaw14_NodeSums.j2 kj15 a0 l1 t123 t128 t138 (!(t136 == t121) || (!(t137 == t122))) t125 t126 t127 t135 t136 t137) else (paymasterlaw14_NodeSums.j2 kj15 a0 l1 t123 t128 t138 true t125 t126 t127 t135 t136 t137)) else (paymasterlaw14_NodeSums.j2 kj15 a0 l1 t123 t128 t138 false t125 t126 t127 t135 t136 t137))) = some r := by rw [if_neg (show ¬ (false = true) by decide)] at H; exact H
          clear H
          have H := H1
          clear H1
          have HC45 := aM' H
          clear H
          go_upto_region 10 with (fail)
          go_cut [88] (fun v88 wc => ∃ (kq : Nat) (x88_44 : Bool), v88 = .bool x88_44 ∧ Aside0 (paymasterlaw14_NodeSums.j2 kq a0 l1 t123 t128 t138 x88_44 t125 t126 t127 t135 t136 t137 = some r) ∧ Aside0 (kq ≤ kj15) ∧ Aside0 (wc.heap[gb124]? = some (.cells #[.int .u64 t121, .int .u64 t122] 26 (0, 0))) ∧ Aside0 (wc.heap[gb129]? = some (.cells #[.string t125, .int .u64 t126, .int .u64 t127] 28 (0, 0))) ∧ Aside0 (wc.heap[gb139]? = some (.cells #[.string t135, .int .u64 t136, .int .u64 t137] 28 (0, 0))) ∧ Aside0 (Below w.heap.size w wc))
          case first =>
           have H := HC45.out
           clear HC45
           by_cases c46 : t128 = 0
           ·
            rw [if_pos c46] at H
            have c46b0 : (t128 == 0) = true := beq_iff_eq.mpr c46
            have c46b1 : (t128 != 0) = false := bne_eq_false_iff_eq.mpr c46
            clear c46
            (first | rw [c46b0] | (simp only [i64_w, i32_w]; rw [c46b0]) | skip)
            by_cases c47 : t123 = true
            ·
             subst c47
             have H1 : (if (!(t126 == t121) || (!(t127 == t122))) = true then (paymasterlaw14_NodeSums.j2 kj15 a0 l1 true t128 t138 true t125 t126 t127 t135 t136 t137) else (if t138 = 0 then (paymasterlaw14_NodeSums.j2 kj15 a0 l1 true t128 t138 (!(t136 == t121) || (!(t137 == t122))) t125 t126 t127 t135 t136 t137) else (paymasterlaw14_NodeSums.j2 kj15 a0 l1 true t128 t138 false t125 t126 t127 t135 t136 t137))) = some r := by rw [if_pos rfl] at H; exact H
             clear H
             have H := H1
             clear H1
             by_cases c48 : (!(t126 == t121) || (!(t127 == t122))) = true
             ·
              rw [if_pos c48] at H
              have c48b0 : (!(t126 == t121) || (!(t127 == t122))) = true := c48
              clear c48
              have H' := aM' H
              clear H
              have hnb49 := NB129_124.out
              have hnc49 := NB124_129.out
              have hnb50 := NB129_139.out
              have hnc50 := NB139_129.out
              have hcz51_0 : wc.cell? ⟨gb129, 0, none⟩ = some (.string t125) := (blk_cell BK129.out 0).trans rfl
              have hcz51_1 : wc.cell? ⟨gb129, 1, none⟩ = some (.int .u64 t126) := (blk_cell BK129.out 1).trans rfl
              have hcz51_2 : wc.cell? ⟨gb129, 2, none⟩ = some (.int .u64 t127) := (blk_cell BK129.out 2).trans rfl
              have hfz51_0 := blk_frozen BK129.out 0
              have hfz51_1 := blk_frozen BK129.out 1
              have hfz51_2 := blk_frozen BK129.out 2
              have hnb52 := NB124_139.out
              have hnc52 := NB139_124.out
              have hcz53_0 : wc.cell? ⟨gb124, 0, none⟩ = some (.int .u64 t121) := (blk_cell BK124.out 0).trans rfl
              have hcz53_1 : wc.cell? ⟨gb124, 1, none⟩ = some (.int .u64 t122) := (blk_cell BK124.out 1).trans rfl
              have hfz53_0 := blk_frozen BK124.out 0
              have hfz53_1 := blk_frozen BK124.out 1
              go_wp2
              go_meet
              case rel => exact ⟨_, (true), (by first | rfl | (simp; done) | (simp [*]; done)), H', ⟨by have := HJ5.out; have := HJ15.out; first | omega | exact Nat.le_refl _⟩, ⟨by (with_reducible repeat (first | refine blk_drewN ?_ _ | refine blk_drew ?_ | refine blk_alloc ?_ _)); exact BK124.out⟩, ⟨by (with_reducible repeat (first | refine blk_drewN ?_ _ | refine blk_drew ?_ | refine blk_alloc ?_ _)); exact BK129.out⟩, ⟨by (with_reducible repeat (first | refine blk_drewN ?_ _ | refine blk_drew ?_ | refine blk_alloc ?_ _)); exact BK139.out⟩, ⟨by repeat (first | (with_reducible first | exact HB.out | apply below_alloc | apply pw_below_drewN | apply below_drew1 | refine below_set ?_ GE124.out | refine below_set ?_ GE129.out | refine below_set ?_ GE139.out) | exact HB.out)⟩⟩
             ·
              rw [if_neg c48] at H
              have c48b0 : (!(t126 == t121) || (!(t127 == t122))) = false := by simpa using c48
              clear c48
              by_cases c54 : t138 = 0
              ·
               rw [if_pos c54] at H
               have c54b0 : (t138 == 0) = true := beq_iff_eq.mpr c54
               have c54b1 : (t138 != 0) = false := bne_eq_false_iff_eq.mpr c54
               clear c54
               have H' := aM' H
               clear H
               have hnb55 := NB129_124.out
               have hnc55 := NB124_129.out
               have hnb56 := NB129_139.out
               have hnc56 := NB139_129.out
               have hcz57_0 : wc.cell? ⟨gb129, 0, none⟩ = some (.string t125) := (blk_cell BK129.out 0).trans rfl
               have hcz57_1 : wc.cell? ⟨gb129, 1, none⟩ = some (.int .u64 t126) := (blk_cell BK129.out 1).trans rfl
               have hcz57_2 : wc.cell? ⟨gb129, 2, none⟩ = some (.int .u64 t127) := (blk_cell BK129.out 2).trans rfl
               have hfz57_0 := blk_frozen BK129.out 0
               have hfz57_1 := blk_frozen BK129.out 1
               have hfz57_2 := blk_frozen BK129.out 2
               have hnb58 := NB124_139.out
               have hnc58 := NB139_124.out
               have hcz59_0 : wc.cell? ⟨gb124, 0, none⟩ = some (.int .u64 t121) := (blk_cell BK124.out 0).trans rfl
               have hcz59_1 : wc.cell? ⟨gb124, 1, none⟩ = some (.int .u64 t122) := (blk_cell BK124.out 1).trans rfl
               have hfz59_0 := blk_frozen BK124.out 0
               have hfz59_1 := blk_frozen BK124.out 1
               have hcz60_0 : wc.cell? ⟨gb139, 0, none⟩ = some (.string t135) := (blk_cell BK139.out 0).trans rfl
               have hcz60_1 : wc.cell? ⟨gb139, 1, none⟩ = some (.int .u64 t136) := (blk_cell BK139.out 1).trans rfl
               have hcz60_2 : wc.cell? ⟨gb139, 2, none⟩ = some (.int .u64 t137) := (blk_cell BK139.out 2).trans rfl
               have hfz60_0 := blk_frozen BK139.out 0
               have hfz60_1 := blk_frozen BK139.out 1
               have hfz60_2 := blk_frozen BK139.out 2
               go_wp2
               go_meet
               case rel => exact ⟨_, ((!(t136 == t121) || (!(t137 == t122)))), (by first | rfl | (simp; done) | (simp [*]; done)), H', ⟨by have := HJ5.out; have := HJ15.out; first | omega | exact Nat.le_refl _⟩, ⟨by (with_reducible repeat (first | refine blk_drewN ?_ _ | refine blk_drew ?_ | refine blk_alloc ?_ _)); exact BK124.out⟩, ⟨by (with_reducible repeat (first | refine blk_drewN ?_ _ | refine blk_drew ?_ | refine blk_alloc ?_ _)); exact BK129.out⟩, ⟨by (with_reducible repeat (first | refine blk_drewN ?_ _ | refine blk_drew ?_ | refine blk_alloc ?_ _)); exact BK139.out⟩, ⟨by repeat (first | (with_reducible first | exact HB.out | apply below_alloc | apply pw_below_drewN | apply below_drew1 | refine below_set ?_ GE124.out | refine below_set ?_ GE129.out | refine below_set ?_ GE139.out) | exact HB.out)⟩⟩
              ·
               rw [if_neg c54] at H
               have c54b0 : (t138 == 0) = false := beq_eq_false_iff_ne.mpr c54
               have c54b1 : (t138 != 0) = true := bne_iff_ne.mpr c54
               have H' := aM' H
               clear H
               have hnb61 := NB129_124.out
               have hnc61 := NB124_129.out
               have hnb62 := NB129_139.out
               have hnc62 := NB139_129.out
               have hcz63_0 : wc.cell? ⟨gb129, 0, none⟩ = some (.string t125) := (blk_cell BK129.out 0).trans rfl
               have hcz63_1 : wc.cell? ⟨gb129, 1, none⟩ = some (.int .u64 t126) := (blk_cell BK129.out 1).trans rfl
               have hcz63_2 : wc.cell? ⟨gb129, 2, none⟩ = some (.int .u64 t127) := (blk_cell BK129.out 2).trans rfl
               have hfz63_0 := blk_frozen BK129.out 0
               have hfz63_1 := blk_frozen BK129.out 1
               have hfz63_2 := blk_frozen BK129.out 2
               have hnb64 := NB124_139.out
               have hnc64 := NB139_124.out
               have hcz65_0 : wc.cell? ⟨gb124, 0, none⟩ = some (.int .u64 t121) := (blk_cell BK124.out 0).trans rfl
               have hcz65_1 : wc.cell? ⟨gb124, 1, none⟩ = some (.int .u64 t122) := (blk_cell BK124.out 1).trans rfl
               have hfz65_0 := blk_frozen BK124.out 0
               have hfz65_1 := blk_frozen BK124.out 1
               go_wp2
               go_meet
               case rel => exact ⟨_, (false), (by first | rfl | (simp; done) | (simp [*]; done)), H', ⟨by have := HJ5.out; have := HJ15.out; first | omega | exact Nat.le_refl _⟩, ⟨by (with_reducible repeat (first | refine blk_drewN ?_ _ | refine blk_drew ?_ | refine blk_alloc ?_ _)); exact BK124.out⟩, ⟨by (with_reducible repeat (first | refine blk_drewN ?_ _ | refine blk_drew ?_ | refine blk_alloc ?_ _)); exact BK129.out⟩, ⟨by (with_reducible repeat (first | refine blk_drewN ?_ _ | refine blk_drew ?_ | refine blk_alloc ?_ _)); exact BK139.out⟩, ⟨by repeat (first | (with_reducible first | exact HB.out | apply below_alloc | apply pw_below_drewN | apply below_drew1 | refine below_set ?_ GE124.out | refine below_set ?_ GE129.out | refine below_set ?_ GE139.out) | exact HB.out)⟩⟩
            ·
             replace c47 := Bool.eq_false_iff.mpr c47
             subst c47
             have H1 : (paymasterlaw14_NodeSums.j2 kj15 a0 l1 false t128 t138 true t125 t126 t127 t135 t136 t137) = some r := by rw [if_neg (show ¬ (false = true) by decide)] at H; exact H
             clear H
             have H := H1
             clear H1
             have H' := aM' H
             clear H
             go_wp2
             go_meet
             case rel => exact ⟨_, (true), (by first | rfl | (simp; done) | (simp [*]; done)), H', ⟨by have := HJ5.out; have := HJ15.out; first | omega | exact Nat.le_refl _⟩, ⟨by (with_reducible repeat (first | refine blk_drewN ?_ _ | refine blk_drew ?_ | refine blk_alloc ?_ _)); exact BK124.out⟩, ⟨by (with_reducible repeat (first | refine blk_drewN ?_ _ | refine blk_drew ?_ | refine blk_alloc ?_ _)); exact BK129.out⟩, ⟨by (with_reducible repeat (first | refine blk_drewN ?_ _ | refine blk_drew ?_ | refine blk_alloc ?_ _)); exact BK139.out⟩, ⟨by repeat (first | (with_reducible first | exact HB.out | apply below_alloc | apply pw_below_drewN | apply below_drew1 | refine below_set ?_ GE124.out | refine below_set ?_ GE129.out | refine below_set ?_ GE139.out) | exact HB.out)⟩⟩
           ·
            rw [if_neg c46] at H
            have c46b0 : (t128 == 0) = false := beq_eq_false_iff_ne.mpr c46
            have c46b1 : (t128 != 0) = true := bne_iff_ne.mpr c46
            (first | rw [c46b0] | (simp only [i64_w, i32_w]; rw [c46b0]) | skip)
            by_cases c66 : t138 = 0
            ·
             rw [if_pos c66] at H
             have c66b0 : (t138 == 0) = true := beq_iff_eq.mpr c66
             have c66b1 : (t138 != 0) = false := bne_eq_false_iff_eq.mpr c66
             clear c66
             by_cases c67 : t123 = true
             ·
              subst c67
              have H1 : (paymasterlaw14_NodeSums.j2 kj15 a0 l1 true t128 t138 (!(t136 == t121) || (!(t137 == t122))) t125 t126 t127 t135 t136 t137) = some r := by rw [if_pos rfl] at H; exact H
              clear H
              have H := H1
              clear H1
              have H' := aM' H
              clear H
              have hnb68 := NB139_124.out
              have hnc68 := NB124_139.out
              have hnb69 := NB139_129.out
              have hnc69 := NB129_139.out
              have hcz70_0 : wc.cell? ⟨gb139, 0, none⟩ = some (.string t135) := (blk_cell BK139.out 0).trans rfl
              have hcz70_1 : wc.cell? ⟨gb139, 1, none⟩ = some (.int .u64 t136) := (blk_cell BK139.out 1).trans rfl
              have hcz70_2 : wc.cell? ⟨gb139, 2, none⟩ = some (.int .u64 t137) := (blk_cell BK139.out 2).trans rfl
              have hfz70_0 := blk_frozen BK139.out 0
              have hfz70_1 := blk_frozen BK139.out 1
              have hfz70_2 := blk_frozen BK139.out 2
              have hnb71 := NB124_129.out
              have hnc71 := NB129_124.out
              have hcz72_0 : wc.cell? ⟨gb124, 0, none⟩ = some (.int .u64 t121) := (blk_cell BK124.out 0).trans rfl
              have hcz72_1 : wc.cell? ⟨gb124, 1, none⟩ = some (.int .u64 t122) := (blk_cell BK124.out 1).trans rfl
              have hfz72_0 := blk_frozen BK124.out 0
              have hfz72_1 := blk_frozen BK124.out 1
              go_wp2
              go_meet
              case rel => exact ⟨_, ((!(t136 == t121) || (!(t137 == t122)))), (by first | rfl | (simp; done) | (simp [*]; done)), H', ⟨by have := HJ5.out; have := HJ15.out; first | omega | exact Nat.le_refl _⟩, ⟨by (with_reducible repeat (first | refine blk_drewN ?_ _ | refine blk_drew ?_ | refine blk_alloc ?_ _)); exact BK124.out⟩, ⟨by (with_reducible repeat (first | refine blk_drewN ?_ _ | refine blk_drew ?_ | refine blk_alloc ?_ _)); exact BK129.out⟩, ⟨by (with_reducible repeat (first | refine blk_drewN ?_ _ | refine blk_drew ?_ | refine blk_alloc ?_ _)); exact BK139.out⟩, ⟨by repeat (first | (with_reducible first | exact HB.out | apply below_alloc | apply pw_below_drewN | apply below_drew1 | refine below_set ?_ GE124.out | refine below_set ?_ GE129.out | refine below_set ?_ GE139.out) | exact HB.out)⟩⟩
             ·
              replace c67 := Bool.eq_false_iff.mpr c67
              subst c67
              have H1 : (paymasterlaw14_NodeSums.j2 kj15 a0 l1 false t128 t138 true t125 t126 t127 t135 t136 t137) = some r := by rw [if_neg (show ¬ (false = true) by decide)] at H; exact H
              clear H
              have H := H1
              clear H1
              have H' := aM' H
              clear H
              go_wp2
              go_meet
              case rel => exact ⟨_, (true), (by first | rfl | (simp; done) | (simp [*]; done)), H', ⟨by have := HJ5.out; have := HJ15.out; first | omega | exact Nat.le_refl _⟩, ⟨by (with_reducible repeat (first | refine blk_drewN ?_ _ | refine blk_drew ?_ | refine blk_alloc ?_ _)); exact BK124.out⟩, ⟨by (with_reducible repeat (first | refine blk_drewN ?_ _ | refine blk_drew ?_ | refine blk_alloc ?_ _)); exact BK129.out⟩, ⟨by (with_reducible repeat (first | refine blk_drewN ?_ _ | refine blk_drew ?_ | refine blk_alloc ?_ _)); exact BK139.out⟩, ⟨by repeat (first | (with_reducible first | exact HB.out | apply below_alloc | apply pw_below_drewN | apply below_drew1 | refine below_set ?_ GE124.out | refine below_set ?_ GE129.out | refine below_set ?_ GE139.out) | exact HB.out)⟩⟩
            ·
             rw [if_neg c66] at H
             have c66b0 : (t138 == 0) = false := beq_eq_false_iff_ne.mpr c66
             have c66b1 : (t138 != 0) = true := bne_iff_ne.mpr c66
             have H' := aM' H
             clear H
             go_wp2
             go_meet
             case rel => exact ⟨_, (false), (by first | rfl | (simp; done) | (simp [*]; done)), H', ⟨by have := HJ5.out; have := HJ15.out; first | omega | exact Nat.le_refl _⟩, ⟨by (with_reducible repeat (first | refine blk_drewN ?_ _ | refine blk_drew ?_ | refine blk_alloc ?_ _)); exact BK124.out⟩, ⟨by (with_reducible repeat (first | refine blk_drewN ?_ _ | refine blk_drew ?_ | refine blk_alloc ?_ _)); exact BK129.out⟩, ⟨by (with_reducible repeat (first | refine blk_drewN ?_ _ | refine blk_drew ?_ | refine blk_alloc ?_ _)); exact BK139.out⟩, ⟨by repeat (first | (with_reducible first | exact HB.out | apply below_alloc | apply pw_below_drewN | apply below_drew1 | refine below_set ?_ GE124.out | refine below_set ?_ GE129.out | refine below_set ?_ GE139.out) | exact HB.out)⟩⟩
          case rest =>
           clear HC45
           try clear c1
           try clear p1
           try clear q1
           try clear hx1
           try clear qi1
           try clear c2
           try clear p2
           try clear q2
           try clear c3
           try clear c4
           try clear c5
           try clear c6
           try clear c7
           try clear c9
           try clear c10
           try clear c13
           try clear c13b0
           try clear c13b1
           try clear p13
           try clear q13
           try clear hx13
           try clear qi13
           try clear c14
           try clear c14b0
           try clear c14b1
           try clear c17
           try clear c18
           try clear c19
           try clear c22
           try clear c26
           try clear q26
           try clear c33
           try clear c33b0
           try clear c33b1
           try clear c34
           try clear c35
           try clear c35b0
           try clear c35b1
           try clear c36
           try clear c36b0
           try clear c36b1
           try clear c36b2
           try clear c37
           try clear c38
           try clear c40
           try clear c42
           try clear c43
           try clear c46
           try clear c46b0
           try clear c46b1
           try clear c47
           try clear c48
           try clear c48b0
           try clear c49
           try clear c50
           try clear c52
           try clear c54
           try clear c54b0
           try clear c54b1
           try clear c55
           try clear c56
           try clear c58
           try clear c61
           try clear c62
           try clear c64
           try clear c66
           try clear c66b0
           try clear c66b1
           try clear c67
           try clear c68
           try clear c69
           try clear c71
           try clear hcz19_0
           try clear hcz19_1
           try clear hcz23_0
           try clear hcz23_1
           try clear hcz23_2
           try clear hcz39_0
           try clear hcz39_1
           try clear hcz39_2
           try clear hcz41_0
           try clear hcz41_1
           try clear hcz41_2
           try clear hcz44_0
           try clear hcz44_1
           try clear hcz44_2
           try clear hcz51_0
           try clear hcz51_1
           try clear hcz51_2
           try clear hcz53_0
           try clear hcz53_1
           try clear hcz57_0
           try clear hcz57_1
           try clear hcz57_2
           try clear hcz59_0
           try clear hcz59_1
           try clear hcz60_0
           try clear hcz60_1
           try clear hcz60_2
           try clear hcz63_0
           try clear hcz63_1
           try clear hcz63_2
           try clear hcz65_0
           try clear hcz65_1
           try clear hcz70_0
           try clear hcz70_1
           try clear hcz70_2
           try clear hcz72_0
           try clear hcz72_1
           try clear hfz19_0
           try clear hfz19_1
           try clear hfz23_0
           try clear hfz23_1
           try clear hfz23_2
           try clear hfz39_0
           try clear hfz39_1
           try clear hfz39_2
           try clear hfz41_0
           try clear hfz41_1
           try clear hfz41_2
           try clear hfz44_0
           try clear hfz44_1
           try clear hfz44_2
           try clear hfz51_0
           try clear hfz51_1
           try clear hfz51_2
           try clear hfz53_0
           try clear hfz53_1
           try clear hfz57_0
           try clear hfz57_1
           try clear hfz57_2
           try clear hfz59_0
           try clear hfz59_1
           try clear hfz60_0
           try clear hfz60_1
           try clear hfz60_2
           try clear hfz63_0
           try clear hfz63_1
           try clear hfz63_2
           try clear hfz65_0
           try clear hfz65_1
           try clear hfz70_0
           try clear hfz70_1
           try clear hfz70_2
           try clear hfz72_0
           try clear hfz72_1
           try clear hx130_0
           try clear hx130_1
           try clear hx130_2
           try clear p1
           try clear p13
           try clear p130
           try clear p2
           try clear q1
           try clear q13
           try clear q130
           try clear q2
           try clear q26
           obtain ⟨kq, x88_44, rfl, HA, HJ44, BK124, BK129, BK139, HB⟩ := hcut
           cases kq with
           | zero => exact absurd HA.out (by simp [paymasterlaw14_NodeSums.j2])
           | succ kj44 =>
            have H := HA.out
            clear HA
            simp only [paymasterlaw14_NodeSums.j2] at H
            by_cases c73 : x88_44 = true
            ·
             subst c73
             have H1 : (some false) = some r := by rw [if_pos rfl] at H; exact H
             clear H
             have H := H1
             clear H1
             obtain rfl := Option.some.inj H
             go_wp2
             go_ret
             exact ⟨by first | rfl | (simp [errW_none, errW_some] <;> rfl) | (simp [*, errW_none, errW_some] <;> rfl), by repeat (first | (with_reducible first | exact HB.out | apply below_alloc | apply pw_below_drewN | apply below_drew1 | refine below_set ?_ GE124.out | refine below_set ?_ GE129.out | refine below_set ?_ GE139.out) | exact HB.out)⟩
            ·
             replace c73 := Bool.eq_false_iff.mpr c73
             subst c73
             have H1 : (if t128 = 0 then (if t138 = 0 then (paymasterlaw14_NodeSums.j3 kj44 a0 l1 t128 t138 false t125 t126 t127 t135 t136 t137) else (if t138 = 2 then (paymasterlaw14_NodeSums.j3 kj44 a0 l1 t128 t138 false t125 t126 t127 t135 t136 t137) else (if t138 = 10 then (paymasterlaw14_NodeSums.j3 kj44 a0 l1 t128 t138 t123 t125 t126 t127 t135 t136 t137) else (paymasterlaw14_NodeSums.j3 kj44 a0 l1 t128 t138 true t125 t126 t127 t135 t136 t137)))) else (if t128 = 2 then (if t138 = 0 then (paymasterlaw14_NodeSums.j3 kj44 a0 l1 t128 t138 false t125 t126 t127 t135 t136 t137) else (if t138 = 2 then (paymasterlaw14_NodeSums.j3 kj44 a0 l1 t128 t138 false t125 t126 t127 t135 t136 t137) else (if t138 = 10 then (paymasterlaw14_NodeSums.j3 kj44 a0 l1 t128 t138 t123 t125 t126 t127 t135 t136 t137) else (paymasterlaw14_NodeSums.j3 kj44 a0 l1 t128 t138 true t125 t126 t127 t135 t136 t137)))) else (if t128 = 10 then (if t123 = true then (paymasterlaw14_NodeSums.j3 kj44 a0 l1 t128 t138 true t125 t126 t127 t135 t136 t137) else (if t138 = 0 then (paymasterlaw14_NodeSums.j3 kj44 a0 l1 t128 t138 false t125 t126 t127 t135 t136 t137) else (if t138 = 2 then (paymasterlaw14_NodeSums.j3 kj44 a0 l1 t128 t138 false t125 t126 t127 t135 t136 t137) else (if t138 = 10 then (paymasterlaw14_NodeSums.j3 kj44 a0 l1 t128 t138 t123 t125 t126 t127 t135 t136 t137) else (paymasterlaw14_NodeSums.j3 kj44 a0 l1 t128 t138 true t125 t126 t127 t135 t136 t137))))) else (paymasterlaw14_NodeSums.j3 kj44 a0 l1 t128 t138 true t125 t126 t127 t135 t136 t137)))) = some r := by rw [if_neg (show ¬ (false = true) by decide)] at H; exact H
             clear H
             have H := H1
             clear H1
             have HC74 := aM' H
             clear H
             go_upto_region 12 with (fail)
             go_cut [116] (fun v116 wc => ∃ (kq : Nat) (x116_73 : Bool), v116 = .bool x116_73 ∧ Aside0 (paymasterlaw14_NodeSums.j3 kq a0 l1 t128 t138 x116_73 t125 t126 t127 t135 t136 t137 = some r) ∧ Aside0 (kq ≤ kj44) ∧ Aside0 (wc.heap[gb124]? = some (.cells #[.int .u64 t121, .int .u64 t122] 26 (0, 0))) ∧ Aside0 (wc.heap[gb129]? = some (.cells #[.string t125, .int .u64 t126, .int .u64 t127] 28 (0, 0))) ∧ Aside0 (wc.heap[gb139]? = some (.cells #[.string t135, .int .u64 t136, .int .u64 t137] 28 (0, 0))) ∧ Aside0 (Below w.heap.size w wc))
             case first =>
              have H := HC74.out
              clear HC74
              by_cases c75 : t128 = 0
              ·
               rw [if_pos c75] at H
               have c75b0 : (t128 == 0) = true := beq_iff_eq.mpr c75
               have c75b1 : (t128 != 0) = false := bne_eq_false_iff_eq.mpr c75
               clear c75
               (first | rw [c75b0] | (simp only [i64_w, i32_w]; rw [c75b0]) | skip)
               by_cases c76 : t138 = 0
               ·
                rw [if_pos c76] at H
                have c76b0 : (t138 == 0) = true := beq_iff_eq.mpr c76
                have c76b1 : (t138 != 0) = false := bne_eq_false_iff_eq.mpr c76
                clear c76
                have H' := aM' H
                clear H
                go_wp2
                go_meet
                case rel => exact ⟨_, (false), (by first | rfl | (simp; done) | (simp [*]; done)), H', ⟨by have := HJ5.out; have := HJ15.out; have := HJ44.out; first | omega | exact Nat.le_refl _⟩, ⟨by (with_reducible repeat (first | refine blk_drewN ?_ _ | refine blk_drew ?_ | refine blk_alloc ?_ _)); exact BK124.out⟩, ⟨by (with_reducible repeat (first | refine blk_drewN ?_ _ | refine blk_drew ?_ | refine blk_alloc ?_ _)); exact BK129.out⟩, ⟨by (with_reducible repeat (first | refine blk_drewN ?_ _ | refine blk_drew ?_ | refine blk_alloc ?_ _)); exact BK139.out⟩, ⟨by repeat (first | (with_reducible first | exact HB.out | apply below_alloc | apply pw_below_drewN | apply below_drew1 | refine below_set ?_ GE124.out | refine below_set ?_ GE129.out | refine below_set ?_ GE139.out) | exact HB.out)⟩⟩
               ·
                rw [if_neg c76] at H
                have c76b0 : (t138 == 0) = false := beq_eq_false_iff_ne.mpr c76
                have c76b1 : (t138 != 0) = true := bne_iff_ne.mpr c76
                by_cases c77 : t138 = 2
                ·
                 rw [if_pos c77] at H
                 have c77b0 : (t138 == 2) = true := beq_iff_eq.mpr c77
                 have c77b1 : (t138 != 2) = false := bne_eq_false_iff_eq.mpr c77
                 clear c77
                 have H' := aM' H
                 clear H
                 go_wp2
                 go_meet
                 case rel => exact ⟨_, (false), (by first | rfl | (simp; done) | (simp [*]; done)), H', ⟨by have := HJ5.out; have := HJ15.out; have := HJ44.out; first | omega | exact Nat.le_refl _⟩, ⟨by (with_reducible repeat (first | refine blk_drewN ?_ _ | refine blk_drew ?_ | refine blk_alloc ?_ _)); exact BK124.out⟩, ⟨by (with_reducible repeat (first | refine blk_drewN ?_ _ | refine blk_drew ?_ | refine blk_alloc ?_ _)); exact BK129.out⟩, ⟨by (with_reducible repeat (first | refine blk_drewN ?_ _ | refine blk_drew ?_ | refine blk_alloc ?_ _)); exact BK139.out⟩, ⟨by repeat (first | (with_reducible first | exact HB.out | apply below_alloc | apply pw_below_drewN | apply below_drew1 | refine below_set ?_ GE124.out | refine below_set ?_ GE129.out | refine below_set ?_ GE139.out) | exact HB.out)⟩⟩
                ·
                 rw [if_neg c77] at H
                 have c77b0 : (t138 == 2) = false := beq_eq_false_iff_ne.mpr c77
                 have c77b1 : (t138 != 2) = true := bne_iff_ne.mpr c77
                 by_cases c78 : t138 = 10
                 ·
                  rw [if_pos c78] at H
                  have c78b0 : (t138 == 10) = true := beq_iff_eq.mpr c78
                  have c78b1 : (t138 != 10) = false := bne_eq_false_iff_eq.mpr c78
                  clear c78
                  have H' := aM' H
                  clear H
                  go_wp2
                  go_meet
                  case rel => exact ⟨_, (t123), (by first | rfl | (simp; done) | (simp [*]; done)), H', ⟨by have := HJ5.out; have := HJ15.out; have := HJ44.out; first | omega | exact Nat.le_refl _⟩, ⟨by (with_reducible repeat (first | refine blk_drewN ?_ _ | refine blk_drew ?_ | refine blk_alloc ?_ _)); exact BK124.out⟩, ⟨by (with_reducible repeat (first | refine blk_drewN ?_ _ | refine blk_drew ?_ | refine blk_alloc ?_ _)); exact BK129.out⟩, ⟨by (with_reducible repeat (first | refine blk_drewN ?_ _ | refine blk_drew ?_ | refine blk_alloc ?_ _)); exact BK139.out⟩, ⟨by repeat (first | (with_reducible first | exact HB.out | apply below_alloc | apply pw_below_drewN | apply below_drew1 | refine below_set ?_ GE124.out | refine below_set ?_ GE129.out | refine below_set ?_ GE139.out) | exact HB.out)⟩⟩
                 ·
                  rw [if_neg c78] at H
                  have c78b0 : (t138 == 10) = false := beq_eq_false_iff_ne.mpr c78
                  have c78b1 : (t138 != 10) = true := bne_iff_ne.mpr c78
                  have H' := aM' H
                  clear H
                  go_wp2
                  go_meet
                  case rel => exact ⟨_, (true), (by first | rfl | (simp; done) | (simp [*]; done)), H', ⟨by have := HJ5.out; have := HJ15.out; have := HJ44.out; first | omega | exact Nat.le_refl _⟩, ⟨by (with_reducible repeat (first | refine blk_drewN ?_ _ | refine blk_drew ?_ | refine blk_alloc ?_ _)); exact BK124.out⟩, ⟨by (with_reducible repeat (first | refine blk_drewN ?_ _ | refine blk_drew ?_ | refine blk_alloc ?_ _)); exact BK129.out⟩, ⟨by (with_reducible repeat (first | refine blk_drewN ?_ _ | refine blk_drew ?_ | refine blk_alloc ?_ _)); exact BK139.out⟩, ⟨by repeat (first | (with_reducible first | exact HB.out | apply below_alloc | apply pw_below_drewN | apply below_drew1 | refine below_set ?_ GE124.out | refine below_set ?_ GE129.out | refine below_set ?_ GE139.out) | exact HB.out)⟩⟩
              ·
               rw [if_neg c75] at H
               have c75b0 : (t128 == 0) = false := beq_eq_false_iff_ne.mpr c75
               have c75b1 : (t128 != 0) = true := bne_iff_ne.mpr c75
               (first | rw [c75b0] | (simp only [i64_w, i32_w]; rw [c75b0]) | skip)
               by_cases c79 : t128 = 2
               ·
                rw [if_pos c79] at H
                have c79b0 : (t128 == 2) = true := beq_iff_eq.mpr c79
                have c79b1 : (t128 != 2) = false := bne_eq_false_iff_eq.mpr c79
                clear c79
                by_cases c80 : t138 = 0
                ·
                 rw [if_pos c80] at H
                 have c80b0 : (t138 == 0) = true := beq_iff_eq.mpr c80
                 have c80b1 : (t138 != 0) = false := bne_eq_false_iff_eq.mpr c80
                 clear c80
                 have H' := aM' H
                 clear H
                 go_wp2
                 go_meet
                 case rel => exact ⟨_, (false), (by first | rfl | (simp; done) | (simp [*]; done)), H', ⟨by have := HJ5.out; have := HJ15.out; have := HJ44.out; first | omega | exact Nat.le_refl _⟩, ⟨by (with_reducible repeat (first | refine blk_drewN ?_ _ | refine blk_drew ?_ | refine blk_alloc ?_ _)); exact BK124.out⟩, ⟨by (with_reducible repeat (first | refine blk_drewN ?_ _ | refine blk_drew ?_ | refine blk_alloc ?_ _)); exact BK129.out⟩, ⟨by (with_reducible repeat (first | refine blk_drewN ?_ _ | refine blk_drew ?_ | refine blk_alloc ?_ _)); exact BK139.out⟩, ⟨by repeat (first | (with_reducible first | exact HB.out | apply below_alloc | apply pw_below_drewN | apply below_drew1 | refine below_set ?_ GE124.out | refine below_set ?_ GE129.out | refine below_set ?_ GE139.out) | exact HB.out)⟩⟩
                ·
                 rw [if_neg c80] at H
                 have c80b0 : (t138 == 0) = false := beq_eq_false_iff_ne.mpr c80
                 have c80b1 : (t138 != 0) = true := bne_iff_ne.mpr c80
                 by_cases c81 : t138 = 2
                 ·
                  rw [if_pos c81] at H
                  have c81b0 : (t138 == 2) = true := beq_iff_eq.mpr c81
                  have c81b1 : (t138 != 2) = false := bne_eq_false_iff_eq.mpr c81
                  clear c81
                  have H' := aM' H
                  clear H
                  go_wp2
                  go_meet
                  case rel => exact ⟨_, (false), (by first | rfl | (simp; done) | (simp [*]; done)), H', ⟨by have := HJ5.out; have := HJ15.out; have := HJ44.out; first | omega | exact Nat.le_refl _⟩, ⟨by (with_reducible repeat (first | refine blk_drewN ?_ _ | refine blk_drew ?_ | refine blk_alloc ?_ _)); exact BK124.out⟩, ⟨by (with_reducible repeat (first | refine blk_drewN ?_ _ | refine blk_drew ?_ | refine blk_alloc ?_ _)); exact BK129.out⟩, ⟨by (with_reducible repeat (first | refine blk_drewN ?_ _ | refine blk_drew ?_ | refine blk_alloc ?_ _)); exact BK139.out⟩, ⟨by repeat (first | (with_reducible first | exact HB.out | apply below_alloc | apply pw_below_drewN | apply below_drew1 | refine below_set ?_ GE124.out | refine below_set ?_ GE129.out | refine below_set ?_ GE139.out) | exact HB.out)⟩⟩
                 ·
                  rw [if_neg c81] at H
                  have c81b0 : (t138 == 2) = false := beq_eq_false_iff_ne.mpr c81
                  have c81b1 : (t138 != 2) = true := bne_iff_ne.mpr c81
                  by_cases c82 : t138 = 10
                  ·
                   rw [if_pos c82] at H
                   have c82b0 : (t138 == 10) = true := beq_iff_eq.mpr c82
                   have c82b1 : (t138 != 10) = false := bne_eq_false_iff_eq.mpr c82
                   clear c82
                   have H' := aM' H
                   clear H
                   go_wp2
                   go_meet
                   case rel => exact ⟨_, (t123), (by first | rfl | (simp; done) | (simp [*]; done)), H', ⟨by have := HJ5.out; have := HJ15.out; have := HJ44.out; first | omega | exact Nat.le_refl _⟩, ⟨by (with_reducible repeat (first | refine blk_drewN ?_ _ | refine blk_drew ?_ | refine blk_alloc ?_ _)); exact BK124.out⟩, ⟨by (with_reducible repeat (first | refine blk_drewN ?_ _ | refine blk_drew ?_ | refine blk_alloc ?_ _)); exact BK129.out⟩, ⟨by (with_reducible repeat (first | refine blk_drewN ?_ _ | refine blk_drew ?_ | refine blk_alloc ?_ _)); exact BK139.out⟩, ⟨by repeat (first | (with_reducible first | exact HB.out | apply below_alloc | apply pw_below_drewN | apply below_drew1 | refine below_set ?_ GE124.out | refine below_set ?_ GE129.out | refine below_set ?_ GE139.out) | exact HB.out)⟩⟩
                  ·
                   rw [if_neg c82] at H
                   have c82b0 : (t138 == 10) = false := beq_eq_false_iff_ne.mpr c82
                   have c82b1 : (t138 != 10) = true := bne_iff_ne.mpr c82
                   have H' := aM' H
                   clear H
                   go_wp2
                   go_meet
                   case rel => exact ⟨_, (true), (by first | rfl | (simp; done) | (simp [*]; done)), H', ⟨by have := HJ5.out; have := HJ15.out; have := HJ44.out; first | omega | exact Nat.le_refl _⟩, ⟨by (with_reducible repeat (first | refine blk_drewN ?_ _ | refine blk_drew ?_ | refine blk_alloc ?_ _)); exact BK124.out⟩, ⟨by (with_reducible repeat (first | refine blk_drewN ?_ _ | refine blk_drew ?_ | refine blk_alloc ?_ _)); exact BK129.out⟩, ⟨by (with_reducible repeat (first | refine blk_drewN ?_ _ | refine blk_drew ?_ | refine blk_alloc ?_ _)); exact BK139.out⟩, ⟨by repeat (first | (with_reducible first | exact HB.out | apply below_alloc | apply pw_below_drewN | apply below_drew1 | refine below_set ?_ GE124.out | refine below_set ?_ GE129.out | refine below_set ?_ GE139.out) | exact HB.out)⟩⟩
               ·
                rw [if_neg c79] at H
                have c79b0 : (t128 == 2) = false := beq_eq_false_iff_ne.mpr c79
                have c79b1 : (t128 != 2) = true := bne_iff_ne.mpr c79
                by_cases c83 : t128 = 10
                ·
                 rw [if_pos c83] at H
                 have c83b0 : (t128 == 10) = true := beq_iff_eq.mpr c83
                 have c83b1 : (t128 != 10) = false := bne_eq_false_iff_eq.mpr c83
                 clear c83
                 by_cases c84 : t123 = true
                 ·
                  subst c84
                  have H1 : (paymasterlaw14_NodeSums.j3 kj44 a0 l1 t128 t138 true t125 t126 t127 t135 t136 t137) = some r := by rw [if_pos rfl] at H; exact H
                  clear H
                  have H := H1
                  clear H1
                  have H' := aM' H
                  clear H
                  go_wp2
                  go_meet
                  case rel => exact ⟨_, (true), (by first | rfl | (simp; done) | (simp [*]; done)), H', ⟨by have := HJ5.out; have := HJ15.out; have := HJ44.out; first | omega | exact Nat.le_refl _⟩, ⟨by (with_reducible repeat (first | refine blk_drewN ?_ _ | refine blk_drew ?_ | refine blk_alloc ?_ _)); exact BK124.out⟩, ⟨by (with_reducible repeat (first | refine blk_drewN ?_ _ | refine blk_drew ?_ | refine blk_alloc ?_ _)); exact BK129.out⟩, ⟨by (with_reducible repeat (first | refine blk_drewN ?_ _ | refine blk_drew ?_ | refine blk_alloc ?_ _)); exact BK139.out⟩, ⟨by repeat (first | (with_reducible first | exact HB.out | apply below_alloc | apply pw_below_drewN | apply below_drew1 | refine below_set ?_ GE124.out | refine below_set ?_ GE129.out | refine below_set ?_ GE139.out) | exact HB.out)⟩⟩
                 ·
                  replace c84 := Bool.eq_false_iff.mpr c84
                  subst c84
                  have H1 : (if t138 = 0 then (paymasterlaw14_NodeSums.j3 kj44 a0 l1 t128 t138 false t125 t126 t127 t135 t136 t137) else (if t138 = 2 then (paymasterlaw14_NodeSums.j3 kj44 a0 l1 t128 t138 false t125 t126 t127 t135 t136 t137) else (if t138 = 10 then (paymasterlaw14_NodeSums.j3 kj44 a0 l1 t128 t138 false t125 t126 t127 t135 t136 t137) else (paymasterlaw14_NodeSums.j3 kj44 a0 l1 t128 t138 true t125 t126 t127 t135 t136 t137)))) = some r := by rw [if_neg (show ¬ (false = true) by decide)] at H; exact H
                  clear H
                  have H := H1
                  clear H1
                  by_cases c85 : t138 = 0
                  ·
                   rw [if_pos c85] at H
                   have c85b0 : (t138 == 0) = true := beq_iff_eq.mpr c85
                   have c85b1 : (t138 != 0) = false := bne_eq_false_iff_eq.mpr c85
                   clear c85
                   have H' := aM' H
                   clear H
                   go_wp2
                   go_meet
                   case rel => exact ⟨_, (false), (by first | rfl | (simp; done) | (simp [*]; done)), H', ⟨by have := HJ5.out; have := HJ15.out; have := HJ44.out; first | omega | exact Nat.le_refl _⟩, ⟨by (with_reducible repeat (first | refine blk_drewN ?_ _ | refine blk_drew ?_ | refine blk_alloc ?_ _)); exact BK124.out⟩, ⟨by (with_reducible repeat (first | refine blk_drewN ?_ _ | refine blk_drew ?_ | refine blk_alloc ?_ _)); exact BK129.out⟩, ⟨by (with_reducible repeat (first | refine blk_drewN ?_ _ | refine blk_drew ?_ | refine blk_alloc ?_ _)); exact BK139.out⟩, ⟨by repeat (first | (with_reducible first | exact HB.out | apply below_alloc | apply pw_below_drewN | apply below_drew1 | refine below_set ?_ GE124.out | refine below_set ?_ GE129.out | refine below_set ?_ GE139.out) | exact HB.out)⟩⟩
                  ·
                   rw [if_neg c85] at H
                   have c85b0 : (t138 == 0) = false := beq_eq_false_iff_ne.mpr c85
                   have c85b1 : (t138 != 0) = true := bne_iff_ne.mpr c85
                   by_cases c86 : t138 = 2
                   ·
                    rw [if_pos c86] at H
                    have c86b0 : (t138 == 2) = true := beq_iff_eq.mpr c86
                    have c86b1 : (t138 != 2) = false := bne_eq_false_iff_eq.mpr c86
                    clear c86
                    have H' := aM' H
                    clear H
                    go_wp2
                    go_meet
                    case rel => exact ⟨_, (false), (by first | rfl | (simp; done) | (simp [*]; done)), H', ⟨by have := HJ5.out; have := HJ15.out; have := HJ44.out; first | omega | exact Nat.le_refl _⟩, ⟨by (with_reducible repeat (first | refine blk_drewN ?_ _ | refine blk_drew ?_ | refine blk_alloc ?_ _)); exact BK124.out⟩, ⟨by (with_reducible repeat (first | refine blk_drewN ?_ _ | refine blk_drew ?_ | refine blk_alloc ?_ _)); exact BK129.out⟩, ⟨by (with_reducible repeat (first | refine blk_drewN ?_ _ | refine blk_drew ?_ | refine blk_alloc ?_ _)); exact BK139.out⟩, ⟨by repeat (first | (with_reducible first | exact HB.out | apply below_alloc | apply pw_below_drewN | apply below_drew1 | refine below_set ?_ GE124.out | refine below_set ?_ GE129.out | refine below_set ?_ GE139.out) | exact HB.out)⟩⟩
                   ·
                    rw [if_neg c86] at H
                    have c86b0 : (t138 == 2) = false := beq_eq_false_iff_ne.mpr c86
                    have c86b1 : (t138 != 2) = true := bne_iff_ne.mpr c86
                    by_cases c87 : t138 = 10
                    ·
                     rw [if_pos c87] at H
                     have c87b0 : (t138 == 10) = true := beq_iff_eq.mpr c87
                     have c87b1 : (t138 != 10) = false := bne_eq_false_iff_eq.mpr c87
                     clear c87
                     have H' := aM' H
                     clear H
                     go_wp2
                     go_meet
                     case rel => exact ⟨_, (false), (by first | rfl | (simp; done) | (simp [*]; done)), H', ⟨by have := HJ5.out; have := HJ15.out; have := HJ44.out; first | omega | exact Nat.le_refl _⟩, ⟨by (with_reducible repeat (first | refine blk_drewN ?_ _ | refine blk_drew ?_ | refine blk_alloc ?_ _)); exact BK124.out⟩, ⟨by (with_reducible repeat (first | refine blk_drewN ?_ _ | refine blk_drew ?_ | refine blk_alloc ?_ _)); exact BK129.out⟩, ⟨by (with_reducible repeat (first | refine blk_drewN ?_ _ | refine blk_drew ?_ | refine blk_alloc ?_ _)); exact BK139.out⟩, ⟨by repeat (first | (with_reducible first | exact HB.out | apply below_alloc | apply pw_below_drewN | apply below_drew1 | refine below_set ?_ GE124.out | refine below_set ?_ GE129.out | refine below_set ?_ GE139.out) | exact HB.out)⟩⟩
                    ·
                     rw [if_neg c87] at H
                     have c87b0 : (t138 == 10) = false := beq_eq_false_iff_ne.mpr c87
                     have c87b1 : (t138 != 10) = true := bne_iff_ne.mpr c87
                     have H' := aM' H
                     clear H
                     go_wp2
                     go_meet
                     case rel => exact ⟨_, (true), (by first | rfl | (simp; done) | (simp [*]; done)), H', ⟨by have := HJ5.out; have := HJ15.out; have := HJ44.out; first | omega | exact Nat.le_refl _⟩, ⟨by (with_reducible repeat (first | refine blk_drewN ?_ _ | refine blk_drew ?_ | refine blk_alloc ?_ _)); exact BK124.out⟩, ⟨by (with_reducible repeat (first | refine blk_drewN ?_ _ | refine blk_drew ?_ | refine blk_alloc ?_ _)); exact BK129.out⟩, ⟨by (with_reducible repeat (first | refine blk_drewN ?_ _ | refine blk_drew ?_ | refine blk_alloc ?_ _)); exact BK139.out⟩, ⟨by repeat (first | (with_reducible first | exact HB.out | apply below_alloc | apply pw_below_drewN | apply below_drew1 | refine below_set ?_ GE124.out | refine below_set ?_ GE129.out | refine below_set ?_ GE139.out) | exact HB.out)⟩⟩
                ·
                 rw [if_neg c83] at H
                 have c83b0 : (t128 == 10) = false := beq_eq_false_iff_ne.mpr c83
                 have c83b1 : (t128 != 10) = true := bne_iff_ne.mpr c83
                 have H' := aM' H
                 clear H
                 go_wp2
                 go_meet
                 case rel => exact ⟨_, (true), (by first | rfl | (simp; done) | (simp [*]; done)), H', ⟨by have := HJ5.out; have := HJ15.out; have := HJ44.out; first | omega | exact Nat.le_refl _⟩, ⟨by (with_reducible repeat (first | refine blk_drewN ?_ _ | refine blk_drew ?_ | refine blk_alloc ?_ _)); exact BK124.out⟩, ⟨by (with_reducible repeat (first | refine blk_drewN ?_ _ | refine blk_drew ?_ | refine blk_alloc ?_ _)); exact BK129.out⟩, ⟨by (with_reducible repeat (first | refine blk_drewN ?_ _ | refine blk_drew ?_ | refine blk_alloc ?_ _)); exact BK139.out⟩, ⟨by repeat (first | (with_reducible first | exact HB.out | apply below_alloc | apply pw_below_drewN | apply below_drew1 | refine below_set ?_ GE124.out | refine below_set ?_ GE129.out | refine below_set ?_ GE139.out) | exact HB.out)⟩⟩
             case rest =>
              clear HC74
              try clear c1
              try clear p1
              try clear q1
              try clear hx1
              try clear qi1
              try clear c2
              try clear p2
              try clear q2
              try clear c3
              try clear c4
              try clear c5
              try clear c6
              try clear c7
              try clear c8
              try clear c9
              try clear c10
              try clear c13
              try clear c13b0
              try clear c13b1
              try clear p13
              try clear q13
              try clear hx13
              try clear qi13
              try clear c14
              try clear c14b0
              try clear c14b1
              try clear c17
              try clear c18
              try clear c19
              try clear c22
              try clear c26
              try clear q26
              try clear c33
              try clear c33b0
              try clear c33b1
              try clear c34
              try clear c35
              try clear c35b0
              try clear c35b1
              try clear c36
              try clear c36b0
              try clear c36b1
              try clear c36b2
              try clear c37
              try clear c38
              try clear c40
              try clear c42
              try clear c43
              try clear c46
              try clear c46b0
              try clear c46b1
              try clear c47
              try clear c48
              try clear c48b0
              try clear c49
              try clear c50
              try clear c52
              try clear c54
              try clear c54b0
              try clear c54b1
              try clear c55
              try clear c56
              try clear c58
              try clear c61
              try clear c62
              try clear c64
              try clear c66
              try clear c66b0
              try clear c66b1
              try clear c67
              try clear c68
              try clear c69
              try clear c71
              try clear c73
              try clear c75
              try clear c75b0
              try clear c75b1
              try clear c76
              try clear c76b0
              try clear c76b1
              try clear c77
              try clear c77b0
              try clear c77b1
              try clear c78
              try clear c78b0
              try clear c78b1
              try clear c79
              try clear c79b0
              try clear c79b1
              try clear c80
              try clear c80b0
              try clear c80b1
              try clear c81
              try clear c81b0
              try clear c81b1
              try clear c82
              try clear c82b0
              try clear c82b1
              try clear c83
              try clear c83b0
              try clear c83b1
              try clear c84
              try clear c85
              try clear c85b0
              try clear c85b1
              try clear c86
              try clear c86b0
              try clear c86b1
              try clear c87
              try clear c87b0
              try clear c87b1
              try clear hcz19_0
              try clear hcz19_1
              try clear hcz23_0
              try clear hcz23_1
              try clear hcz23_2
              try clear hcz39_0
              try clear hcz39_1
              try clear hcz39_2
              try clear hcz41_0
              try clear hcz41_1
              try clear hcz41_2
              try clear hcz44_0
              try clear hcz44_1
              try clear hcz44_2
              try clear hcz51_0
              try clear hcz51_1
              try clear hcz51_2
              try clear hcz53_0
              try clear hcz53_1
              try clear hcz57_0
              try clear hcz57_1
              try clear hcz57_2
              try clear hcz59_0
              try clear hcz59_1
              try clear hcz60_0
              try clear hcz60_1
              try clear hcz60_2
              try clear hcz63_0
              try clear hcz63_1
              try clear hcz63_2
              try clear hcz65_0
              try clear hcz65_1
              try clear hcz70_0
              try clear hcz70_1
              try clear hcz70_2
              try clear hcz72_0
              try clear hcz72_1
              try clear hfz19_0
              try clear hfz19_1
              try clear hfz23_0
              try clear hfz23_1
              try clear hfz23_2
              try clear hfz39_0
              try clear hfz39_1
              try clear hfz39_2
              try clear hfz41_0
              try clear hfz41_1
              try clear hfz41_2
              try clear hfz44_0
              try clear hfz44_1
              try clear hfz44_2
              try clear hfz51_0
              try clear hfz51_1
              try clear hfz51_2
              try clear hfz53_0
              try clear hfz53_1
              try clear hfz57_0
              try clear hfz57_1
              try clear hfz57_2
              try clear hfz59_0
              try clear hfz59_1
              try clear hfz60_0
              try clear hfz60_1
              try clear hfz60_2
              try clear hfz63_0
              try clear hfz63_1
              try clear hfz63_2
              try clear hfz65_0
              try clear hfz65_1
              try clear hfz70_0
              try clear hfz70_1
              try clear hfz70_2
              try clear hfz72_0
              try clear hfz72_1
              try clear hx130_0
              try clear hx130_1
              try clear hx130_2
              try clear p1
              try clear p13
              try clear p130
              try clear p2
              try clear q1
              try clear q13
              try clear q130
              try clear q2
              try clear q26
              obtain ⟨kq, x116_73, rfl, HA, HJ73, BK124, BK129, BK139, HB⟩ := hcut
              cases kq with
              | zero => exact absurd HA.out (by simp [paymasterlaw14_NodeSums.j3])
              | succ kj73 =>
               have H := HA.out
               clear HA
               simp only [paymasterlaw14_NodeSums.j3] at H
               by_cases c88 : x116_73 = true
               ·
                subst c88
                have H1 : (some false) = some r := by rw [if_pos rfl] at H; exact H
                clear H
                have H := H1
                clear H1
                obtain rfl := Option.some.inj H
                go_wp2
                go_ret
                exact ⟨by first | rfl | (simp [errW_none, errW_some] <;> rfl) | (simp [*, errW_none, errW_some] <;> rfl), by repeat (first | (with_reducible first | exact HB.out | apply below_alloc | apply pw_below_drewN | apply below_drew1 | refine below_set ?_ GE124.out | refine below_set ?_ GE129.out | refine below_set ?_ GE139.out) | exact HB.out)⟩
               ·
                replace c88 := Bool.eq_false_iff.mpr c88
                subst c88
                have H1 : (if ((t138 == 2) == (decide ((wrap64 ((l1.length : Int) - 1)) > 63))) = true then (if t128 = 0 then ((node_Of.f a0 t125 t126 t127).bind fun t140 => (if t140 = true then (if t138 = 0 then ((node_Of.f a0 t135 t136 t137).bind fun t141 => (some t141)) else (some true)) else (some false))) else (if t138 = 0 then ((node_Of.f a0 t135 t136 t137).bind fun t142 => (some t142)) else (some true))) else (some false)) = some r := by rw [if_neg (show ¬ (false = true) by decide)] at H; exact H
                clear H
                have H := H1
                clear H1
                by_cases c89 : ((t138 == 2) == (decide ((wrap64 ((l1.length : Int) - 1)) > 63))) = true
                ·
                 rw [if_pos c89] at H
                 have c89b0 : ((t138 == 2) == (decide ((wrap64 ((l1.length : Int) - 1)) > 63))) = true := c89
                 (try (have c89b1 : decide ((t138 == 2) = (decide ((wrap64 ((l1.length : Int) - 1)) > 63))) = true := by simpa using c89))
                 (try (have c89b2 : ((t138 == 2) == (decide ((wrap64 ((l1.length : Int) - 1)) > 63))) = true := by simpa using c89))
                 clear c89
                 by_cases c90 : t128 = 0
                 ·
                  rw [if_pos c90] at H
                  have c90b0 : (t128 == 0) = true := beq_iff_eq.mpr c90
                  have c90b1 : (t128 != 0) = false := bne_eq_false_iff_eq.mpr c90
                  clear c90
                  replace H := Option.bind_eq_some_iff.mp H
                  obtain ⟨t140, A910, H⟩ := H
                  replace H : (if t140 = true then (if t138 = 0 then ((node_Of.f a0 t135 t136 t137).bind fun t141 => (some t141)) else (some true)) else (some false)) = some r := H
                  have A91 := aM' A910
                  clear A910
                  by_cases c92 : t140 = true
                  ·
                   subst c92
                   have H1 : (if t138 = 0 then ((node_Of.f a0 t135 t136 t137).bind fun t141 => (some t141)) else (some true)) = some r := by rw [if_pos rfl] at H; exact H
                   clear H
                   have H := H1
                   clear H1
                   by_cases c93 : t138 = 0
                   ·
                    rw [if_pos c93] at H
                    have c93b0 : (t138 == 0) = true := beq_iff_eq.mpr c93
                    have c93b1 : (t138 != 0) = false := bne_eq_false_iff_eq.mpr c93
                    clear c93
                    replace H := Option.bind_eq_some_iff.mp H
                    obtain ⟨t141, A940, H⟩ := H
                    replace H : (some t141) = some r := H
                    have A94 := aM' A940
                    clear A940
                    obtain rfl := Option.some.inj H
                    have hnb95 := NB129_124.out
                    have hnc95 := NB124_129.out
                    have hnb96 := NB129_139.out
                    have hnc96 := NB139_129.out
                    have hcz97_0 : wc.cell? ⟨gb129, 0, none⟩ = some (.string t125) := (blk_cell BK129.out 0).trans rfl
                    have hcz97_1 : wc.cell? ⟨gb129, 1, none⟩ = some (.int .u64 t126) := (blk_cell BK129.out 1).trans rfl
                    have hcz97_2 : wc.cell? ⟨gb129, 2, none⟩ = some (.int .u64 t127) := (blk_cell BK129.out 2).trans rfl
                    have hfz97_0 := blk_frozen BK129.out 0
                    have hfz97_1 := blk_frozen BK129.out 1
                    have hfz97_2 := blk_frozen BK129.out 2
                    go_wp2_with (first | (go_at_call 20; (with_reducible refine (node_Of.calls a0 t125 t126 t127 true _ A91.out).mono ?_); rintro e w98 ⟨rfl, hb⟩; have n0_ := aM' (blk_below (g := gb124) (o := .cells #[.int .u64 t121, .int .u64 t122] 26 (0, 0)) (by (with_reducible repeat (first | refine blk_drewN ?_ _ | refine blk_drew ?_ | refine blk_alloc ?_ _)); exact BK124.out) hb); have n1_ := aM' (blk_below (g := gb129) (o := .cells #[.string t125, .int .u64 t126, .int .u64 t127] 28 (0, 0)) (by (with_reducible repeat (first | refine blk_drewN ?_ _ | refine blk_drew ?_ | refine blk_alloc ?_ _)); exact BK129.out) hb); have n2_ := aM' (blk_below (g := gb139) (o := .cells #[.string t135, .int .u64 t136, .int .u64 t137] 28 (0, 0)) (by (with_reducible repeat (first | refine blk_drewN ?_ _ | refine blk_drew ?_ | refine blk_alloc ?_ _)); exact BK139.out) hb); have n3_ := aM' (below_step (by repeat (first | (with_reducible first | exact HB.out | apply below_alloc | apply pw_below_drewN | apply below_drew1 | refine below_set ?_ GE124.out | refine below_set ?_ GE129.out | refine below_set ?_ GE139.out) | exact HB.out)) hb); clear BK124; clear BK129; clear BK139; clear HB; have BK124 := n0_; have BK129 := n1_; have BK139 := n2_; have HB := n3_; clear n0_ n1_ n2_ n3_; (try clear hb); (try clear hb2); (try clear hk); (try clear hi); have hnb99 := NB139_124.out; have hnc99 := NB124_139.out; have hcz100_0 : w98.cell? ⟨gb139, 0, none⟩ = some (.string t135) := (blk_cell BK139.out 0).trans rfl; have hcz100_1 : w98.cell? ⟨gb139, 1, none⟩ = some (.int .u64 t136) := (blk_cell BK139.out 1).trans rfl; have hcz100_2 : w98.cell? ⟨gb139, 2, none⟩ = some (.int .u64 t137) := (blk_cell BK139.out 2).trans rfl; have hfz100_0 := blk_frozen BK139.out 0; have hfz100_1 := blk_frozen BK139.out 1; have hfz100_2 := blk_frozen BK139.out 2) | (go_at_call 20; (with_reducible refine (node_Of.calls a0 t135 t136 t137 t141 _ A94.out).mono ?_); rintro e w101 ⟨rfl, hb⟩; have n0_ := aM' (blk_below (g := gb124) (o := .cells #[.int .u64 t121, .int .u64 t122] 26 (0, 0)) (by (with_reducible repeat (first | refine blk_drewN ?_ _ | refine blk_drew ?_ | refine blk_alloc ?_ _)); exact BK124.out) hb); have n1_ := aM' (blk_below (g := gb129) (o := .cells #[.string t125, .int .u64 t126, .int .u64 t127] 28 (0, 0)) (by (with_reducible repeat (first | refine blk_drewN ?_ _ | refine blk_drew ?_ | refine blk_alloc ?_ _)); exact BK129.out) hb); have n2_ := aM' (blk_below (g := gb139) (o := .cells #[.string t135, .int .u64 t136, .int .u64 t137] 28 (0, 0)) (by (with_reducible repeat (first | refine blk_drewN ?_ _ | refine blk_drew ?_ | refine blk_alloc ?_ _)); exact BK139.out) hb); have n3_ := aM' (below_step (by repeat (first | (with_reducible first | exact HB.out | apply below_alloc | apply pw_below_drewN | apply below_drew1 | refine below_set ?_ GE124.out | refine below_set ?_ GE129.out | refine below_set ?_ GE139.out) | exact HB.out)) hb); clear BK124; clear BK129; clear BK139; clear HB; have BK124 := n0_; have BK129 := n1_; have BK139 := n2_; have HB := n3_; clear n0_ n1_ n2_ n3_; (try clear hb); (try clear hb2); (try clear hk); (try clear hi)))
                    go_ret
                    exact ⟨by first | rfl | (simp [errW_none, errW_some] <;> rfl) | (simp [*, errW_none, errW_some] <;> rfl), by repeat (first | (with_reducible first | exact HB.out | apply below_alloc | apply pw_below_drewN | apply below_drew1 | refine below_set ?_ GE124.out | refine below_set ?_ GE129.out | refine below_set ?_ GE139.out) | exact HB.out)⟩
                   ·
                    rw [if_neg c93] at H
                    have c93b0 : (t138 == 0) = false := beq_eq_false_iff_ne.mpr c93
                    have c93b1 : (t138 != 0) = true := bne_iff_ne.mpr c93
                    obtain rfl := Option.some.inj H
                    have hnb102 := NB129_124.out
                    have hnc102 := NB124_129.out
                    have hnb103 := NB129_139.out
                    have hnc103 := NB139_129.out
                    have hcz104_0 : wc.cell? ⟨gb129, 0, none⟩ = some (.string t125) := (blk_cell BK129.out 0).trans rfl
                    have hcz104_1 : wc.cell? ⟨gb129, 1, none⟩ = some (.int .u64 t126) := (blk_cell BK129.out 1).trans rfl
                    have hcz104_2 : wc.cell? ⟨gb129, 2, none⟩ = some (.int .u64 t127) := (blk_cell BK129.out 2).trans rfl
                    have hfz104_0 := blk_frozen BK129.out 0
                    have hfz104_1 := blk_frozen BK129.out 1
                    have hfz104_2 := blk_frozen BK129.out 2
                    go_wp2_with (first | (go_at_call 20; (with_reducible refine (node_Of.calls a0 t125 t126 t127 true _ A91.out).mono ?_); rintro e w105 ⟨rfl, hb⟩; have n0_ := aM' (blk_below (g := gb124) (o := .cells #[.int .u64 t121, .int .u64 t122] 26 (0, 0)) (by (with_reducible repeat (first | refine blk_drewN ?_ _ | refine blk_drew ?_ | refine blk_alloc ?_ _)); exact BK124.out) hb); have n1_ := aM' (blk_below (g := gb129) (o := .cells #[.string t125, .int .u64 t126, .int .u64 t127] 28 (0, 0)) (by (with_reducible repeat (first | refine blk_drewN ?_ _ | refine blk_drew ?_ | refine blk_alloc ?_ _)); exact BK129.out) hb); have n2_ := aM' (blk_below (g := gb139) (o := .cells #[.string t135, .int .u64 t136, .int .u64 t137] 28 (0, 0)) (by (with_reducible repeat (first | refine blk_drewN ?_ _ | refine blk_drew ?_ | refine blk_alloc ?_ _)); exact BK139.out) hb); have n3_ := aM' (below_step (by repeat (first | (with_reducible first | exact HB.out | apply below_alloc | apply pw_below_drewN | apply below_drew1 | refine below_set ?_ GE124.out | refine below_set ?_ GE129.out | refine below_set ?_ GE139.out) | exact HB.out)) hb); clear BK124; clear BK129; clear BK139; clear HB; have BK124 := n0_; have BK129 := n1_; have BK139 := n2_; have HB := n3_; clear n0_ n1_ n2_ n3_; (try clear hb); (try clear hb2); (try clear hk); (try clear hi)))
                    go_ret
                    exact ⟨by first | rfl | (simp [errW_none, errW_some] <;> rfl) | (simp [*, errW_none, errW_some] <;> rfl), by repeat (first | (with_reducible first | exact HB.out | apply below_alloc | apply pw_below_drewN | apply below_drew1 | refine below_set ?_ GE124.out | refine below_set ?_ GE129.out | refine below_set ?_ GE139.out) | exact HB.out)⟩
                  ·
                   replace c92 := Bool.eq_false_iff.mpr c92
                   subst c92
                   have H1 : (some false) = some r := by rw [if_neg (show ¬ (false = true) by decide)] at H; exact H
                   clear H
                   have H := H1
                   clear H1
                   obtain rfl := Option.some.inj H
                   have hnb106 := NB129_124.out
                   have hnc106 := NB124_129.out
                   have hnb107 := NB129_139.out
                   have hnc107 := NB139_129.out
                   have hcz108_0 : wc.cell? ⟨gb129, 0, none⟩ = some (.string t125) := (blk_cell BK129.out 0).trans rfl
                   have hcz108_1 : wc.cell? ⟨gb129, 1, none⟩ = some (.int .u64 t126) := (blk_cell BK129.out 1).trans rfl
                   have hcz108_2 : wc.cell? ⟨gb129, 2, none⟩ = some (.int .u64 t127) := (blk_cell BK129.out 2).trans rfl
                   have hfz108_0 := blk_frozen BK129.out 0
                   have hfz108_1 := blk_frozen BK129.out 1
                   have hfz108_2 := blk_frozen BK129.out 2
                   go_wp2_with (first | (go_at_call 20; (with_reducible refine (node_Of.calls a0 t125 t126 t127 false _ A91.out).mono ?_); rintro e w109 ⟨rfl, hb⟩; have n0_ := aM' (blk_below (g := gb124) (o := .cells #[.int .u64 t121, .int .u64 t122] 26 (0, 0)) (by (with_reducible repeat (first | refine blk_drewN ?_ _ | refine blk_drew ?_ | refine blk_alloc ?_ _)); exact BK124.out) hb); have n1_ := aM' (blk_below (g := gb129) (o := .cells #[.string t125, .int .u64 t126, .int .u64 t127] 28 (0, 0)) (by (with_reducible repeat (first | refine blk_drewN ?_ _ | refine blk_drew ?_ | refine blk_alloc ?_ _)); exact BK129.out) hb); have n2_ := aM' (blk_below (g := gb139) (o := .cells #[.string t135, .int .u64 t136, .int .u64 t137] 28 (0, 0)) (by (with_reducible repeat (first | refine blk_drewN ?_ _ | refine blk_drew ?_ | refine blk_alloc ?_ _)); exact BK139.out) hb); have n3_ := aM' (below_step (by repeat (first | (with_reducible first | exact HB.out | apply below_alloc | apply pw_below_drewN | apply below_drew1 | refine below_set ?_ GE124.out | refine below_set ?_ GE129.out | refine below_set ?_ GE139.out) | exact HB.out)) hb); clear BK124; clear BK129; clear BK139; clear HB; have BK124 := n0_; have BK129 := n1_; have BK139 := n2_; have HB := n3_; clear n0_ n1_ n2_ n3_; (try clear hb); (try clear hb2); (try clear hk); (try clear hi)))
                   go_ret
                   exact ⟨by first | rfl | (simp [errW_none, errW_some] <;> rfl) | (simp [*, errW_none, errW_some] <;> rfl), by repeat (first | (with_reducible first | exact HB.out | apply below_alloc | apply pw_below_drewN | apply below_drew1 | refine below_set ?_ GE124.out | refine below_set ?_ GE129.out | refine below_set ?_ GE139.out) | exact HB.out)⟩
                 ·
                  rw [if_neg c90] at H
                  have c90b0 : (t128 == 0) = false := beq_eq_false_iff_ne.mpr c90
                  have c90b1 : (t128 != 0) = true := bne_iff_ne.mpr c90
                  by_cases c110 : t138 = 0
                  ·
                   rw [if_pos c110] at H
                   have c110b0 : (t138 == 0) = true := beq_iff_eq.mpr c110
                   have c110b1 : (t138 != 0) = false := bne_eq_false_iff_eq.mpr c110
                   clear c110
                   replace H := Option.bind_eq_some_iff.mp H
                   obtain ⟨t142, A1110, H⟩ := H
                   replace H : (some t142) = some r := H
                   have A111 := aM' A1110
                   clear A1110
                   obtain rfl := Option.some.inj H
                   have hnb112 := NB139_124.out
                   have hnc112 := NB124_139.out
                   have hnb113 := NB139_129.out
                   have hnc113 := NB129_139.out
                   have hcz114_0 : wc.cell? ⟨gb139, 0, none⟩ = some (.string t135) := (blk_cell BK139.out 0).trans rfl
                   have hcz114_1 : wc.cell? ⟨gb139, 1, none⟩ = some (.int .u64 t136) := (blk_cell BK139.out 1).trans rfl
                   have hcz114_2 : wc.cell? ⟨gb139, 2, none⟩ = some (.int .u64 t137) := (blk_cell BK139.out 2).trans rfl
                   have hfz114_0 := blk_frozen BK139.out 0
                   have hfz114_1 := blk_frozen BK139.out 1
                   have hfz114_2 := blk_frozen BK139.out 2
                   go_wp2_with (first | (go_at_call 20; (with_reducible refine (node_Of.calls a0 t135 t136 t137 t142 _ A111.out).mono ?_); rintro e w115 ⟨rfl, hb⟩; have n0_ := aM' (blk_below (g := gb124) (o := .cells #[.int .u64 t121, .int .u64 t122] 26 (0, 0)) (by (with_reducible repeat (first | refine blk_drewN ?_ _ | refine blk_drew ?_ | refine blk_alloc ?_ _)); exact BK124.out) hb); have n1_ := aM' (blk_below (g := gb129) (o := .cells #[.string t125, .int .u64 t126, .int .u64 t127] 28 (0, 0)) (by (with_reducible repeat (first | refine blk_drewN ?_ _ | refine blk_drew ?_ | refine blk_alloc ?_ _)); exact BK129.out) hb); have n2_ := aM' (blk_below (g := gb139) (o := .cells #[.string t135, .int .u64 t136, .int .u64 t137] 28 (0, 0)) (by (with_reducible repeat (first | refine blk_drewN ?_ _ | refine blk_drew ?_ | refine blk_alloc ?_ _)); exact BK139.out) hb); have n3_ := aM' (below_step (by repeat (first | (with_reducible first | exact HB.out | apply below_alloc | apply pw_below_drewN | apply below_drew1 | refine below_set ?_ GE124.out | refine below_set ?_ GE129.out | refine below_set ?_ GE139.out) | exact HB.out)) hb); clear BK124; clear BK129; clear BK139; clear HB; have BK124 := n0_; have BK129 := n1_; have BK139 := n2_; have HB := n3_; clear n0_ n1_ n2_ n3_; (try clear hb); (try clear hb2); (try clear hk); (try clear hi)))
                   go_ret
                   exact ⟨by first | rfl | (simp [errW_none, errW_some] <;> rfl) | (simp [*, errW_none, errW_some] <;> rfl), by repeat (first | (with_reducible first | exact HB.out | apply below_alloc | apply pw_below_drewN | apply below_drew1 | refine below_set ?_ GE124.out | refine below_set ?_ GE129.out | refine below_set ?_ GE139.out) | exact HB.out)⟩
                  ·
                   rw [if_neg c110] at H
                   have c110b0 : (t138 == 0) = false := beq_eq_false_iff_ne.mpr c110
                   have c110b1 : (t138 != 0) = true := bne_iff_ne.mpr c110
                   obtain rfl := Option.some.inj H
                   go_wp2
                   go_ret
                   exact ⟨by first | rfl | (simp [errW_none, errW_some] <;> rfl) | (simp [*, errW_none, errW_some] <;> rfl), by repeat (first | (with_reducible first | exact HB.out | apply below_alloc | apply pw_below_drewN | apply below_drew1 | refine below_set ?_ GE124.out | refine below_set ?_ GE129.out | refine below_set ?_ GE139.out) | exact HB.out)⟩
                ·
                 rw [if_neg c89] at H
                 have c89b0 : ((t138 == 2) == (decide ((wrap64 ((l1.length : Int) - 1)) > 63))) = false := by simpa using c89
                 (try (have c89b1 : decide ((t138 == 2) = (decide ((wrap64 ((l1.length : Int) - 1)) > 63))) = false := by simpa using c89))
                 (try (have c89b2 : ((t138 == 2) == (decide ((wrap64 ((l1.length : Int) - 1)) > 63))) = false := by simpa using c89))
                 (try (have c89b3 : ¬ ((t138 == 2) = (decide ((wrap64 ((l1.length : Int) - 1)) > 63))) := by simpa using c89))
                 clear c89
                 obtain rfl := Option.some.inj H
                 go_wp2
                 go_ret
                 exact ⟨by first | rfl | (simp [errW_none, errW_some] <;> rfl) | (simp [*, errW_none, errW_some] <;> rfl), by repeat (first | (with_reducible first | exact HB.out | apply below_alloc | apply pw_below_drewN | apply below_drew1 | refine below_set ?_ GE124.out | refine below_set ?_ GE129.out | refine below_set ?_ GE139.out) | exact HB.out)⟩
      ·
       rw [if_neg c14] at H
       exact absurd H (by simp)
     ·
      rw [if_neg c13] at H
      exact absurd H (by simp)
 ·
  replace c5 := Bool.eq_false_iff.mpr c5
  subst c5
  have H1 : (some false) = some r := by rw [if_neg (show ¬ (false = true) by decide)] at H; exact H
  clear H
  have H := H1
  clear H1
  obtain rfl := Option.some.inj H
  go_enter Tryd.func4, Tryd.ntmps4
  go_wp2_with (first | ((with_reducible refine gate_callee (f := 17) rfl ?_); refine goesL_ (some 13) rfl rfl Tryd.func17 (by kernel_rfl) rfl #[] rfl (by (try simp only [List.map_toArray, List.map_cons, List.map_nil]); first | done | rfl | (simp only [List.length_drop, List.length_take]; rfl)) ?_; (with_reducible refine (paymasterlaw14_awake.calls  false _ ?side1 A4.out).mono ?_); (case side1 => exact Laid.below HLD.out (by repeat (first | (with_reducible first | exact HB.out | apply below_alloc | apply pw_below_drewN | apply below_drew1) | exact HB.out))); rintro e w116 ⟨rfl, hb⟩; refine ⟨_, rfl, ?_⟩; have n0_ := aM' (below_step (by repeat (first | (with_reducible first | exact HB.out | apply below_alloc | apply pw_below_drewN | apply below_drew1) | exact HB.out)) hb); clear HB; have HB := n0_; clear n0_; (try clear hb); (try clear hb2); (try clear hk); (try clear hi)))
  go_ret
  exact ⟨by first | rfl | (simp [errW_none, errW_some] <;> rfl) | (simp [*, errW_none, errW_some] <;> rfl), by repeat (first | (with_reducible first | exact HB.out | apply below_alloc | apply pw_below_drewN | apply below_drew1) | exact HB.out)⟩
end Go.Proofs.YtijfifphcchbbaaDoor.P
namespace Go.Proofs.YtijfifphcchbbaaDoor.P
open Go.RowKit Go.Proofs.YtijfifphcchbbaaDoorW.PrintWords Go.Proofs.YtijfifphcchbbaaDoorW.PrintLast Go.Proofs.YtijfifphcchbbaaDoorW.PrintMore
set_option linter.unusedVariables false
set_option linter.unusedSimpArgs false
set_option linter.unnecessarySimpa false
def sumsI (l : List SNode) : Int × Int × Bool := if totL l < 340282366920938463463374607431768211456 then (totL l / 18446744073709551616, totL l % 18446744073709551616, true) else (0, 0, false)
theorem totU_nn : ∀ {l : List SNode}, (∀ x ∈ l, OkU x.f1) → 0 ≤ totL l
 | [], _ => by simp [totL]
 | n :: l, h => by
  have h1 := valU_nn (h n (List.mem_cons_self ..))
  have h2 := totU_nn (l := l) fun x hx => h x (List.mem_cons_of_mem _ hx)
  rw [totL]; omega
theorem sums_loop (l : List SNode) (hl : l.length ≤ 300) (ul : ∀ x ∈ l, OkU x.f1) : ∀ d i : Nat, i + d = l.length → ∀ a b : Int, 0 ≤ a ∧ a < 18446744073709551616 → 0 ≤ b ∧ b < 18446744073709551616 →
  Ev (fun k => paymasterlaw14_sums.l0 k l (i : Int) a b) (if a * 18446744073709551616 + b + totL (l.drop i) < 340282366920938463463374607431768211456 then ((a * 18446744073709551616 + b + totL (l.drop i)) / 18446744073709551616, (a * 18446744073709551616 + b + totL (l.drop i)) % 18446744073709551616, true) else (0, 0, false)) := by
 intro d
 induction d with
 | zero =>
  intro i hi a b ha hb
  rw [List.drop_of_length_le (by omega)]
  have e0 : totL [] = 0 := rfl
  rw [e0, if_pos (by omega)]
  refine Ev.step (f := fun _ => some (a, b, true)) (fun k => ?_) (ev_eq (Ev.now _) ?_)
  ·
   simp only [paymasterlaw14_sums.l0]; rw [if_neg (by omega)]
  ·
   rw [show (a * 18446744073709551616 + b + 0) / 18446744073709551616 = a by omega, show (a * 18446744073709551616 + b + 0) % 18446744073709551616 = b by omega]
 | succ d ih =>
  intro i hi a b ha hb
  have hlt : i < l.length := by omega
  have hx := ul l[i] (List.getElem_mem hlt)
  have hdn : 0 ≤ totL (l.drop (i + 1)) := totU_nn fun x hx => ul x (List.mem_of_mem_drop hx)
  rw [List.drop_eq_getElem_cons hlt, totL]
  have h0 := hx.h0
  have h1 := hx.h1
  unfold valU
  generalize hT : totL (l.drop (i + 1)) = T at *
  refine Ev.step (f := fun k => if (addI128 a b l[i].f1.f0 l[i].f1.f1).2.2 = 0 then paymasterlaw14_sums.l0 k l ((i + 1 : Nat) : Int) (addI128 a b l[i].f1.f0 l[i].f1.f1).1 (addI128 a b l[i].f1.f0 l[i].f1.f1).2.1 else some (0, 0, false)) (fun k => ?_) ?_
  ·
   simp only [paymasterlaw14_sums.l0]
   rw [if_pos (by omega), if_pos (by omega), rdNode_nat l i hlt, u128Add_eq a b _ _ ha hb h0 h1, wrap64_id (by omega) (by omega)]; rfl
  ·
   unfold addI128
   by_cases hr : a + l[i].f1.f0 + (b + l[i].f1.f1) / 18446744073709551616 < 18446744073709551616
   ·
    rw [if_pos hr]
    refine Ev.congr (fun k => if_pos rfl) ?_
    have := ih (i + 1) (by omega) (a + l[i].f1.f0 + (b + l[i].f1.f1) / 18446744073709551616) ((b + l[i].f1.f1) % 18446744073709551616) (by omega) (by omega)
    rw [hT] at this
    refine ev_eq this ?_
    rw [show (a + l[i].f1.f0 + (b + l[i].f1.f1) / 18446744073709551616) * 18446744073709551616 + (b + l[i].f1.f1) % 18446744073709551616 + T = a * 18446744073709551616 + b + (l[i].f1.f0 * 18446744073709551616 + l[i].f1.f1 + T) by omega]
   ·
    rw [if_neg hr]
    refine Ev.congr (fun k => if_neg (by decide)) (ev_eq (Ev.now _) ?_)
    rw [if_neg (by omega)]
theorem sums_ev (l : List SNode) (hl : l.length ≤ 300) (ul : ∀ x ∈ l, OkU x.f1) : Ev (fun k => paymasterlaw14_sums.f k l) (sumsI l) := by
 unfold paymasterlaw14_sums.f sumsI
 have := sums_loop l hl ul l.length 0 (by omega) 0 0 ⟨by omega, by omega⟩ ⟨by omega, by omega⟩
 refine ev_eq this ?_
 simp
end Go.Proofs.YtijfifphcchbbaaDoor.P
namespace Go.Proofs.YtijfifphcchbbaaDoor.P
open Go.RowKit Go.Proofs.YtijfifphcchbbaaDoorW.PrintWords Go.Proofs.YtijfifphcchbbaaDoorW.PrintLast Go.Proofs.YtijfifphcchbbaaDoorW.PrintMore
set_option linter.unusedVariables false
set_option linter.unusedSimpArgs false
set_option linter.unnecessarySimpa false
theorem sums_j3 (w : Int) (l : List SNode) (x10 x12 : Int) (a b : SNode) (h2 : (x12 == 2) = decide (63 < l.length - 1)) (hl : 0 < l.length ∧ l.length ≤ 300) (h3 : x10 = 0 → nodeOf w a = true) (h4 : x12 = 0 → nodeOf w b = true) : Ev (fun k => paymasterlaw14_NodeSums.j3 k w l x10 x12 false a.f0 a.f1.f0 a.f1.f1 b.f0 b.f1.f0 b.f1.f1) true := by
 have hd : ((x12 == 2) == (decide ((wrap64 ((l.length : Int) - 1)) > 63))) = true := by
  rw [wrap64_id (by omega) (by omega), h2, beq_iff_eq, decide_eq_decide]
  omega
 refine Ev.step (f := fun k => if x10 = 0 then ((node_Of.f w a.f0 a.f1.f0 a.f1.f1).bind fun t140 => (if t140 = true then (if x12 = 0 then ((node_Of.f w b.f0 b.f1.f0 b.f1.f1).bind fun t141 => (some t141)) else (some true)) else (some false))) else (if x12 = 0 then ((node_Of.f w b.f0 b.f1.f0 b.f1.f1).bind fun t142 => (some t142)) else (some true))) (fun k => ?_) ?_
 ·
  simp only [paymasterlaw14_NodeSums.j3]; rw [if_neg (by decide), if_pos hd]
 ·
  simp only [node_Of_eq, Option.bind_some]
  refine Ev.some_ (fun k => ?_)
  by_cases h0 : x10 = 0
  ·
   rw [if_pos h0, if_pos (h3 h0)]
   by_cases h1 : x12 = 0
   ·
    rw [if_pos h1, h4 h1]
   ·
    rw [if_neg h1]
  ·
   rw [if_neg h0]
   by_cases h1 : x12 = 0
   ·
    rw [if_pos h1, h4 h1]
   ·
    rw [if_neg h1]
theorem sums_j2 (w : Int) (l : List SNode) (x8 : Bool) (x10 x12 : Int) (a b : SNode) (h10 : x10 = 0 ∨ x10 = 2 ∨ x10 = 10 ∧ x8 = false) (h12 : x12 = 0 ∨ x12 = 2 ∨ x12 = 10 ∧ x8 = false) (h2 : (x12 == 2) = decide (63 < l.length - 1)) (hl : 0 < l.length ∧ l.length ≤ 300) (h3 : x10 = 0 → nodeOf w a = true) (h4 : x12 = 0 → nodeOf w b = true) : Ev (fun k => paymasterlaw14_NodeSums.j2 k w l x8 x10 x12 false a.f0 a.f1.f0 a.f1.f1 b.f0 b.f1.f0 b.f1.f1) true := by
 refine Ev.step (f := fun k => paymasterlaw14_NodeSums.j3 k w l x10 x12 false a.f0 a.f1.f0 a.f1.f1 b.f0 b.f1.f0 b.f1.f1) (fun k => ?_) (sums_j3 w l x10 x12 a b h2 hl h3 h4)
 simp only [paymasterlaw14_NodeSums.j2]
 rcases h10 with rfl | rfl | ⟨rfl, rfl⟩ <;> rcases h12 with rfl | rfl | ⟨rfl, h⟩ <;> simp_all
theorem sums_j1 (w : Int) (l : List SNode) (x8 : Bool) (x10 x12 s0 s1 : Int) (a b : SNode) (h10 : x10 = 0 ∧ (x8 = true ∧ a.f1.f0 = s0 ∧ a.f1.f1 = s1) ∨ x10 = 2 ∨ x10 = 10 ∧ x8 = false) (h12 : x12 = 0 ∧ (x8 = true ∧ b.f1.f0 = s0 ∧ b.f1.f1 = s1) ∨ x12 = 2 ∨ x12 = 10 ∧ x8 = false) (h2 : (x12 == 2) = decide (63 < l.length - 1)) (hl : 0 < l.length ∧ l.length ≤ 300) (h3 : x10 = 0 → nodeOf w a = true) (h4 : x12 = 0 → nodeOf w b = true) :
  Ev (fun k => paymasterlaw14_NodeSums.j1 k w l x8 x10 x12 false s0 s1 a.f0 a.f1.f0 a.f1.f1 b.f0 b.f1.f0 b.f1.f1) true := by
 refine Ev.step (f := fun k => paymasterlaw14_NodeSums.j2 k w l x8 x10 x12 false a.f0 a.f1.f0 a.f1.f1 b.f0 b.f1.f0 b.f1.f1) (fun k => ?_) (sums_j2 w l x8 x10 x12 a b (h10.imp And.left id) (h12.imp And.left id) h2 hl h3 h4)
 simp only [paymasterlaw14_NodeSums.j1]
 rcases h10 with ⟨rfl, h81, ha0, ha1⟩ | rfl | ⟨rfl, h81⟩ <;> rcases h12 with ⟨rfl, h82, hb0, hb1⟩ | rfl | ⟨rfl, h82⟩ <;> simp_all
theorem valU_parts {u : SU128} (h : OkU u) {t : Int} (ht : valU u = t) : u.f0 = t / 18446744073709551616 ∧ u.f1 = t % 18446744073709551616 := by
 have h0 := h.h0; have h1 := h.h1
 unfold valU at ht
 omega
theorem pure_NodeSums : ∀ (y0 : Int) (y1 : (List SNode)) (y2 : Int), (Lit.int .i64 y0).wf = true → (y1.length ≤ 140737488355328 ∧ ∀ q0 ∈ y1, wfNode q0) → (Lit.int .u64 y2).wf = true → ∃ k, paymasterlaw14_NodeSums.f k y0 y1 y2 = some true := by
 intro wd l p _ hl hp
 have hp := wf_u64 hp
 have ul : ∀ x ∈ l, (0 ≤ x.f1.f0 ∧ x.f1.f0 < 18446744073709551616) ∧ (0 ≤ x.f1.f1 ∧ x.f1.f1 < 18446744073709551616) := fun x hx => ⟨wf_u64 (hl.2 x hx).2.1, wf_u64 (hl.2 x hx).2.2⟩
 have uk : ∀ x ∈ l, OkU x.f1 := fun x hx => ⟨(ul x hx).1, (ul x hx).2⟩
 have hl2 : l.length ≤ 9223372036854775807 := by have := hl.1; omega
 refine Ev.rounds ?_
 unfold paymasterlaw14_NodeSums.f paymasterlaw14_awake.f
 simp only [Option.bind_some, if_true]
 refine Ev.bind (great14_ev l hl2) ?_
 have htrue : Ev (fun k => paymasterlaw14_NodeSums.j0 k wd l p true) true := Ev.step (f := fun _ => some true) (fun k => by simp [paymasterlaw14_NodeSums.j0]) (Ev.now _)
 cases hg : greatN l with
 | true => exact Ev.congr (fun k => by rw [if_pos rfl]) htrue
 | false =>
  have h300 : l.length ≤ 300 := by
   unfold greatN at hg
   simp only [Bool.or_eq_false_iff, decide_eq_false_iff_not] at hg
   omega
  refine Ev.congr (fun k => by rw [if_neg (by decide)]) ?_
  cases hl0 : ((l.length : Int) == 0) with
  | true => exact htrue
  | false =>
   have hpos : 0 < l.length := by simp at hl0; cases l with | nil => simp at hl0 | cons _ _ => simp
   obtain ⟨n, t, rfl⟩ : ∃ n t, l = n :: t := by cases l with | nil => simp at hpos | cons n t => exact ⟨n, t, rfl⟩
   have e1 : node_Fold.f wd (n :: t) = some (foldI wd (n :: t)) := by unfold node_Fold.f; rw [if_pos ⟨h300, ul⟩]
   have e2 : node_Climb.f wd n.f0 n.f1.f0 n.f1.f1 p t = some (climbI wd n p t) := by
    unfold node_Climb.f
    rw [if_pos ⟨hp.1, ul n (by simp), fun x hx => ul x (by simp [hx])⟩]
   have ht300 : t.length ≤ 299 := by simp at h300; omega
   refine Ev.step (f := fun k => (paymasterlaw14_sums.f k (n :: t)).bind fun s => if (foldI wd (n :: t)).2.2.2 = 70 then paymasterlaw14_NodeSums.j1 k wd (n :: t) s.2.2 (foldI wd (n :: t)).2.2.2 (climbI wd n p t).2.2.2 true s.1 s.2.1 (foldI wd (n :: t)).1 (foldI wd (n :: t)).2.1 (foldI wd (n :: t)).2.2.1 (climbI wd n p t).1 (climbI wd n p t).2.1 (climbI wd n p t).2.2.1
    else paymasterlaw14_NodeSums.j1 k wd (n :: t) s.2.2 (foldI wd (n :: t)).2.2.2 (climbI wd n p t).2.2.2 ((climbI wd n p t).2.2.2 == 70) s.1 s.2.1 (foldI wd (n :: t)).1 (foldI wd (n :: t)).2.1 (foldI wd (n :: t)).2.2.1 (climbI wd n p t).1 (climbI wd n p t).2.1 (climbI wd n p t).2.2.1) (fun k => ?_) ?_
   ·
    simp only [paymasterlaw14_NodeSums.j0]
    rw [if_neg (by decide), e1]
    have hz : rd_TNode (n :: t) 0 = n := rfl
    rw [hz, List.drop_one, List.tail_cons, e2]
    simp only [Option.bind_some]
    have hp1 : (0 : Int) < ((n :: t).length : Int) := by omega
    have hp2 : (1 : Int) ≤ ((n :: t).length : Int) := by omega
    simp only [if_pos hp1, if_pos hp2]
   ·
    refine Ev.bind (sums_ev (n :: t) h300 uk) ?_
    by_cases hal : 1 ≤ wd ∧ wd ≤ 32 ∧ (n :: t).all (nodeOf wd) = true
    ·
     have hk := allK hal.2.2 uk
     have hn := hk n (by simp)
     have htk : ∀ x ∈ t, NodeK wd x := fun x hx => hk x (by simp [hx])
     have hcl : nodeOf wd n = true ∧ t.all (nodeOf wd) = true := ⟨hn.of, List.all_eq_true.2 fun x hx => (htk x hx).of⟩
     have htot : totL (n :: t) = valU n.f1 + totL t := rfl
     have hfold : ((foldI wd (n :: t)).2.2.2 = 0 ∧ totL (n :: t) < 340282366920938463463374607431768211456 ∧ NodeK wd (nodeJ (foldI wd (n :: t))) ∧ valU (nodeJ (foldI wd (n :: t))).f1 = totL (n :: t)) ∨ (foldI wd (n :: t)).2.2.2 = 2 ∨ (foldI wd (n :: t)).2.2.2 = 10 ∧ ¬ totL (n :: t) < 340282366920938463463374607431768211456 := by
      cases hpw : isPow (n :: t).length with
      | false => right; left; unfold foldI; rw [if_pos hal, if_neg (by rw [hpw]; decide)]
      | true =>
       obtain ⟨k, hk2⟩ := isPow_spec hpw
       rw [foldI_pow hal.1 hal.2.1 hk2 hal.2.2]
       by_cases r : totL (n :: t) < 340282366920938463463374607431768211456
       ·
        left; rw [if_pos r]; exact ⟨rfl, r, treeV_k k _ hk2 hk r, treeV_val k _ hk2⟩
       ·
        right; right; rw [if_neg r]; exact ⟨rfl, r⟩
     have hclimb : ((climbI wd n p t).2.2.2 = 0 ∧ totL (n :: t) < 340282366920938463463374607431768211456 ∧ NodeK wd (nodeJ (climbI wd n p t)) ∧ valU (nodeJ (climbI wd n p t)).f1 = totL (n :: t) ∧ t.length ≤ 63) ∨ (climbI wd n p t).2.2.2 = 2 ∧ 63 < t.length ∨ (climbI wd n p t).2.2.2 = 10 ∧ ¬ totL (n :: t) < 340282366920938463463374607431768211456 ∧ t.length ≤ 63 := by
      by_cases h63 : 63 < t.length
      ·
       right; left; rw [climbI_long hcl h63]; exact ⟨rfl, h63⟩
      ·
       by_cases r : valU n.f1 + totL t < 340282366920938463463374607431768211456
       ·
        left
        obtain ⟨c1, c2, c3⟩ := climbI_room (p := p) hn htk (by omega) r
        rw [c1]
        exact ⟨rfl, r, c2, c3, by omega⟩
       ·
        right; right; rw [climbI_full hn htk (by omega) r]; exact ⟨rfl, r, by omega⟩
     have h70 : ¬ (foldI wd (n :: t)).2.2.2 = 70 := by rcases hfold with h | h | h <;> omega
     have h70b : ((climbI wd n p t).2.2.2 == 70) = false := by rcases hclimb with h | h | h <;> simp [h.1]
     refine Ev.congr (fun k => by rw [if_neg h70, h70b]) ?_
     refine sums_j1 wd (n :: t) (sumsI (n :: t)).2.2 (foldI wd (n :: t)).2.2.2 (climbI wd n p t).2.2.2 (sumsI (n :: t)).1 (sumsI (n :: t)).2.1 (nodeJ (foldI wd (n :: t))) (nodeJ (climbI wd n p t)) ?_ ?_ ?_ ⟨by simp, h300⟩ ?_ ?_
     ·
      rcases hfold with ⟨h1, r, h2, h3⟩ | h | ⟨h, r⟩
      ·
       left; unfold sumsI; rw [if_pos r]; exact ⟨h1, rfl, valU_parts h2.u h3⟩
      ·
       exact .inr (.inl h)
      ·
       right; right; unfold sumsI; rw [if_neg r]; exact ⟨h, rfl⟩
     ·
      rcases hclimb with ⟨h1, r, h2, h3, _⟩ | ⟨h, _⟩ | ⟨h, r, _⟩
      ·
       left; unfold sumsI; rw [if_pos r]; exact ⟨h1, rfl, valU_parts h2.u h3⟩
      ·
       exact .inr (.inl h)
      ·
       right; right; unfold sumsI; rw [if_neg r]; exact ⟨h, rfl⟩
     ·
      rcases hclimb with ⟨h1, _, _, _, h63⟩ | ⟨h, h63⟩ | ⟨h, r, h63⟩
      ·
       rw [h1, decide_eq_false (by simp; omega)]; rfl
      ·
       rw [h, decide_eq_true (by simp; omega)]; rfl
      ·
       rw [h, decide_eq_false (by simp; omega)]; rfl
     ·
      intro h; rcases hfold with ⟨_, _, h2, _⟩ | h' | ⟨h', _⟩
      ·
       exact h2.of
      ·
       omega
      ·
       omega
     ·
      intro h; rcases hclimb with ⟨_, _, h2, _, _⟩ | ⟨h', _⟩ | ⟨h', _, _⟩
      ·
       exact h2.of
      ·
       omega
      ·
       omega
    ·
     have ef : foldI wd (n :: t) = (⟨#[]⟩, 0, 0, 70) := by unfold foldI; rw [if_neg hal]
     have ec : climbI wd n p t = (⟨#[]⟩, 0, 0, 70) := climbI_width (fun h => hal ⟨(nodeOf_w h.1).1, (nodeOf_w h.1).2.1, by simp only [List.all_cons, h.1, h.2, Bool.and_self]⟩)
     rw [ef, ec]
     refine Ev.congr (fun k => by rw [if_pos rfl]) ?_
     refine Ev.step (f := fun _ => some true) (fun k => ?_) (Ev.now _)
     simp only [paymasterlaw14_NodeSums.j1]
     simp
end Go.Proofs.YtijfifphcchbbaaDoor.P
namespace Go.Proofs.YtijfifphcchbbaaDoor.nodeSums
open Go.Proofs.YtijfifphcchbbaaDoor.P Go.ChangeShapes Go.WideShapes Go.ChangeAt Go.RowKit
open Go.ChangeMaps (open_string shut_string)
open Go.Proofs.YtijfifphcchbbaaDoorW.PrintWords Go.Proofs.YtijfifphcchbbaaDoorW.PrintLast Go.Proofs.YtijfifphcchbbaaDoorW.PrintMore
set_option linter.unusedVariables false
set_option linter.unusedSimpArgs false
theorem own : ownKnob Tryd.prog.godebug = none := by kernel_rfl
theorem laidOut : laidOutB Tryd.prog = true := by kernel_rfl
set_option maxRecDepth 100000 in
theorem lifted (os : Os) (started : os.Started) (H : Type) (enc : TypeId × Value → H) :
    ReturnsInHanded {} Tryd.checked os 4 .any (fun w args => (Rows.nodeSumsSpec.pre enc Tryd.prog Tryd.f4 [] false w args ∧ laidMetH Tryd.prog Rows.nodeSumsRow.laid w) ∧ sizedMet enc Tryd.prog Tryd.f4 (OpenSpec.ofChange Rows.nodeSumsSpec) false w args)
      (Rows.nodeSumsSpec.post enc Tryd.prog Tryd.f4 false true false false) := by
  refine returnsInHanded_of_change_and (C := Tryd.checked) (X := fun w _ => laidMetH Tryd.prog Rows.nodeSumsRow.laid w) (fun _ _ _ hh h => h.of_heap hh) own started (by kernel_rfl) Tryd.func4
    (ChangeSpec.witness_at (enc := enc) (C := Tryd.checked) (os := os) (X := fun w _ => laidMetH Tryd.prog Rows.nodeSumsRow.laid w) false (P.laidWorld os) #[.int .i64 0, .slice none 0 0, .int .u64 0] 8 rfl (by kernel_rfl) (by kernel_rfl) (by kernel_rfl) (by kernel_rfl) (by kernel_rfl) (P.laidWorld_met os _)) ?_
  intro W base args ds gs before hval0 hW _ hsz0 hL _
  have hval : ∀ (j : Nat) t v, Tryd.f4.params[j]? = some t → args[j]? = some v → Value.okWide Tryd.prog W .any base t v := hval0
  have hW' := hW
  obtain ⟨p, q, hA0, hV, rfl, hfz, hnd⟩ := hW
  have hA : DataW.TrodAll enc Tryd.prog W 0 (fun _ => true) true Tryd.f4.params.toList args.toList ds p := hA0
  rw [Tryd.params4] at hA hval
  obtain ⟨v0, vs0, d0, ds0, p0, q0, hargs, rfl, rfl, h0, r0⟩ := trodAll_cons hA
  obtain ⟨v1, vs1, d1, ds1, p1, q1, rfl, rfl, rfl, h1, r1⟩ := trodAll_cons r0
  obtain ⟨v2, vs2, d2, ds2, p2, q2, rfl, rfl, rfl, h2, r2⟩ := trodAll_cons r1
  obtain ⟨rfl, rfl, rfl⟩ := trodAll_nil r2
  obtain rfl : args = #[v0, v1, v2] := by cases args; simp_all
  obtain ⟨rfl, rfl⟩ := trodVars_none hV
  have hz0 : Sized Tryd.prog 3 d0 := Sized.each hsz0 (j := 0) rfl rfl
  have hz1 : Sized Tryd.prog 22 d1 := Sized.each hsz0 (j := 1) rfl rfl
  have hz2 : Sized Tryd.prog 24 d2 := Sized.each hsz0 (j := 2) rfl rfl
  have k0 := h0
  have lt0 : ∀ x ∈ p0, x.block < W.heap.size := by obtain ⟨m, hm⟩ := k0; exact DataW.trod_lt m _ _ _ hm
  obtain ⟨y0, rfl, rfl, rfl, w0⟩ := open_int Tryd.underlying3 (hval 0 3 v0 rfl rfl) h0
  have k1 := h1
  have lt1 : ∀ x ∈ p1, x.block < W.heap.size := by obtain ⟨m, hm⟩ := k1; exact DataW.trod_lt m _ _ _ hm
  obtain ⟨a1, len1, cap1, rfl⟩ := okWide_slice Tryd.underlying22 (hval 1 22 v1 rfl rfl)
  obtain ⟨y1, hk1, w1⟩ := (Rd.slice Tryd.underlying22 (by kernel_rfl) (of_decide_eq_true (by kernel_rfl)) rdNode).cell rfl h1 hz1
  obtain ⟨A1, c1, e1, l1, g1⟩ := hk1
  rw [List.cons.injEq] at e1
  obtain ⟨e1, -⟩ := e1
  injection e1 with ea1 el1 ec1
  subst ea1 el1 ec1
  have k2 := h2
  have lt2 : ∀ x ∈ p2, x.block < W.heap.size := by obtain ⟨m, hm⟩ := k2; exact DataW.trod_lt m _ _ _ hm
  obtain ⟨y2, rfl, rfl, rfl, w2⟩ := open_int Tryd.underlying24 (hval 2 24 v2 rfl rfl) h2
  clear hA0 hval0 hsz0
  obtain ⟨k, h⟩ := pure_NodeSums y0 y1 y2 w0 w1 w2
  refine (paymasterlaw14_NodeSums.calls k y0 _ _ y1 y2 true W (P.laid_of_met hL) g1 l1 h).mono fun e W' ⟨he, bel0⟩ => ?_
  have bel := bel0
  subst he
  exact ⟨_, rfl, _, _, _, [], _, [], hW', trodAll_mk1 (shut_bool Tryd.underlying4 _), (trodAll_cons_mk (Below.trod laidOut (by kernel_rfl) (of_decide_eq_true (by kernel_rfl)) k0 bel lt0) (trodAll_cons_mk (Below.trod laidOut (by kernel_rfl) (of_decide_eq_true (by kernel_rfl)) k1 bel lt1) (trodAll_cons_mk (Below.trod laidOut (by kernel_rfl) (of_decide_eq_true (by kernel_rfl)) k2 bel lt2) trodAll_mk0))), rfl, bel.frame _, fun h => by cases h⟩
theorem over : Rows.nodeSumsRow.holds Tryd.pinned (OpenSpec.ofChange Rows.nodeSumsSpec) :=
  OpenClaim.holds_of_wide 4 Tryd.f4 rfl rfl rfl rfl rfl rfl rfl ⟨rfl, rfl, rfl, rfl, rfl⟩ rfl rfl rfl rfl rfl (by kernel_rfl) Tryd.func4 (by kernel_rfl)
    (of_decide_eq_true (by kernel_rfl)) (by unfold Func.isWrapper; first | (rw [if_pos (by decide +kernel)]; kernel_rfl) | (rw [if_neg (by decide +kernel)]; exact ⟨rfl, rfl⟩))
    (fun os started H enc _ => lifted os started H enc)
set_option maxRecDepth 100000 in
theorem proved : Rows.NodeSumsCardSaid :=
  Claim7.holds_tied_plain_at .later [] [.data] true (true, "165769d79d58bfc62aef2440c3d64497f5a859f08bfc759ed4b0f4abe4cad1c8") true
    over (fun _ h => by cases h) (by kernel_rfl) (fun _ h => by cases h) nodeSums_row_tie rfl ⟨rfl, rfl⟩ (by kernel_rfl) rfl
    (fun f fn hf hfn => by
      obtain rfl : f = 4 := Option.some.inj ((show Tryd.prog.funcNamed "paymaster/paymasterlaw14.NodeSums" = some 4 by kernel_rfl).symm.trans hf) |>.symm
      obtain rfl : fn = Tryd.f4 := (Option.some.inj (Tryd.func4.symm.trans hfn)).symm
      exact ⟨by kernel_rfl, fun j t ht => by
        rw [Tryd.params4] at ht
        have h3 : t ∈ [3, 22, 24] := by
          have := List.mem_of_getElem? (l := [3, 22, 24]) (i := j) (a := t) (by simpa using ht)
          exact this
        simp only [List.mem_cons, List.not_mem_nil, or_false] at h3
        rcases h3 with rfl | rfl | rfl
        · exact (show Tryd.prog.wantsStandIn 3 = false by kernel_rfl)
        · exact (show Tryd.prog.wantsStandIn 22 = false by kernel_rfl)
        · exact (show Tryd.prog.wantsStandIn 24 = false by kernel_rfl)
      ⟩)
    (by kernel_rfl)
#print axioms proved
end Go.Proofs.YtijfifphcchbbaaDoor.nodeSums
namespace Go.Proofs.YtijfifphcchbbaaDoor
/-- The row, under a short name, for the claim. -/
theorem nodeSums_holds : Rows.NodeSumsCardSaid := nodeSums.proved
end Go.Proofs.YtijfifphcchbbaaDoor
