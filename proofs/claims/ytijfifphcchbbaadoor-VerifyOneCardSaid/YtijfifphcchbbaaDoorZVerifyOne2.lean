-- Several texts of this workplace as one.
import Derived.Test.YtijfifphcchbbaaDoorZVerifyOne1
import Derived.Test.YtijfifphcchbbaaDoorProg
import Derived.Deep.OwnRows
import Derived.Laws.Rows
import Derived.Test.YtijfifphcchbbaaDoorRows
import Derived.Test.YtijfifphcchbbaaDoorCards
import Derived.Test.YtijfifphcchbbaaDoorTie
namespace Go.Proofs.YtijfifphcchbbaaDoor.P
open Go.RowKit Go.Proofs.YtijfifphcchbbaaDoorW.PrintWords Go.Proofs.YtijfifphcchbbaaDoorW.PrintLast Go.Proofs.YtijfifphcchbbaaDoorW.PrintMore
attribute [local go_sem] max2_int min2_int max_two min_two max_three min_three max_four min_four-- for this text's walks alone
set_option linter.unusedVariables false
set_option linter.unusedSimpArgs false
attribute [local go_sem high] eqAU128
def verify_asked_shape.f (a0_0 : ByteArray) (a0_1 : Int) (a0_2 : Int) (a0_3 : Int) (a0_4 : Bool) (a0_5 : ByteArray) (a0_6 : ByteArray) (a0_7 : Int) (a0_8 : Int) (a0_9 : Int) (l0_10 : List (SNode)) : Option (Int) := (proof_Shape.f (a0_0.size : Int) a0_3 a0_9 l0_10).bind fun t105 => (some t105)
set_option maxHeartbeats 8000000 in
set_option maxRecDepth 100000 in
theorem verify_asked_shape.calls (a0_0 : ByteArray) (a0_1 : Int) (a0_2 : Int) (a0_3 : Int) (a0_4 : Bool) (a0_5 : ByteArray) (a0_6 : ByteArray) (a0_7 : Int) (a0_8 : Int) (a0_9 : Int) (A0_10 : Option Addr) (c0_10 : Nat) (l0_10 : List (SNode)) (r : Int) (w : World) (hr0_10 : Kd.C kNode w A0_10 l0_10.length l0_10) (hc0_10 : l0_10.length ≤ c0_10) (h : verify_asked_shape.f a0_0 a0_1 a0_2 a0_3 a0_4 a0_5 a0_6 a0_7 a0_8 a0_9 l0_10 = some r) :
  Calls Tryd.prog 80 #[.agg #[.string a0_0, .int .u64 a0_1, .int .u64 a0_2, .int .i64 a0_3, .bool a0_4, .string a0_5, .string a0_6, .int .u64 a0_7, .int .u64 a0_8, .int .u64 a0_9, .slice A0_10 l0_10.length c0_10]] w fun e w' => e = .returned (.int .i64 r) ∧ Below w.heap.size w w' := by
 have hu134 := Tryd.underlying134
 have hu59 := Tryd.underlying59
 have HR0_10 := aM' hr0_10
 have HC0_10 := aM' hc0_10
 clear hr0_10 hc0_10
 have HB := aM' (Below.refl w.heap.size w)
 have H : ((proof_Shape.f (a0_0.size : Int) a0_3 a0_9 l0_10).bind fun t105 => (some t105)) = some r := h
 clear h
 replace H := Option.bind_eq_some_iff.mp H
 obtain ⟨t105, A20, H⟩ := H
 replace H : (some t105) = some r := H
 have A2 := aM' A20
 clear A20
 obtain rfl := Option.some.inj H
 go_enter Tryd.func80, Tryd.ntmps80
 go_wp2_with (first | ((with_reducible refine gate_dst (N := 1) rfl ?_); refine box_event ?hg (N := 1) ?hd (cs := #[.string a0_0, .int .u64 a0_1, .int .u64 a0_2, .int .i64 a0_3, .bool a0_4, .string a0_5, .string a0_6, .int .u64 a0_7, .int .u64 a0_8, .int .u64 a0_9, .slice A0_10 l0_10.length c0_10]) (t := 134) ?hr ?_; (case hd => rfl); (case hg => rfl); (case hr => first | (go_simp; done) | (go_simp; rfl)); intro gb104 hg w3 hbox hb; have n0_ := aM' (below_step (by repeat (first | (with_reducible first | exact HB.out | apply below_alloc | apply pw_below_drewN | apply below_drew1) | exact HB.out)) hb); have n1_ := aM' (hbox); have n2_ := aM' ((by rw [hg]; exact (below_size (by repeat (first | (with_reducible first | exact HB.out | apply below_alloc | apply pw_below_drewN | apply below_drew1) | exact HB.out))) : w.heap.size ≤ gb104)); have n3_ := aM' ((by rw [hg]; exact (below_size (by repeat (first | (with_reducible first | exact HB.out | apply below_alloc | apply pw_below_drewN | apply below_drew1) | exact HB.out))) : w.heap.size ≤ gb104)); clear HB; have HB := n0_; have BK104 := n1_; have GW104 := n2_; have GE104 := n3_; clear n0_ n1_ n2_ n3_; clear hb hbox hg; have hcz4_0 : w3.cell? ⟨gb104, 0, none⟩ = some (.string a0_0) := (blk_cell BK104.out 0).trans rfl; have hcz4_1 : w3.cell? ⟨gb104, 1, none⟩ = some (.int .u64 a0_1) := (blk_cell BK104.out 1).trans rfl; have hcz4_2 : w3.cell? ⟨gb104, 2, none⟩ = some (.int .u64 a0_2) := (blk_cell BK104.out 2).trans rfl; have hcz4_3 : w3.cell? ⟨gb104, 3, none⟩ = some (.int .i64 a0_3) := (blk_cell BK104.out 3).trans rfl; have hcz4_4 : w3.cell? ⟨gb104, 4, none⟩ = some (.bool a0_4) := (blk_cell BK104.out 4).trans rfl; have hcz4_5 : w3.cell? ⟨gb104, 5, none⟩ = some (.string a0_5) := (blk_cell BK104.out 5).trans rfl; have hcz4_6 : w3.cell? ⟨gb104, 6, none⟩ = some (.string a0_6) := (blk_cell BK104.out 6).trans rfl; have hcz4_7 : w3.cell? ⟨gb104, 7, none⟩ = some (.int .u64 a0_7) := (blk_cell BK104.out 7).trans rfl; have hcz4_8 : w3.cell? ⟨gb104, 8, none⟩ = some (.int .u64 a0_8) := (blk_cell BK104.out 8).trans rfl; have hcz4_9 : w3.cell? ⟨gb104, 9, none⟩ = some (.int .u64 a0_9) := (blk_cell BK104.out 9).trans rfl; have hcz4_10 : w3.cell? ⟨gb104, 10, none⟩ = some (.slice A0_10 l0_10.length c0_10) := (blk_cell BK104.out 10).trans rfl; have hfz4_0 := blk_frozen BK104.out 0; have hfz4_1 := blk_frozen BK104.out 1; have hfz4_2 := blk_frozen BK104.out 2; have hfz4_3 := blk_frozen BK104.out 3; have hfz4_4 := blk_frozen BK104.out 4; have hfz4_5 := blk_frozen BK104.out 5; have hfz4_6 := blk_frozen BK104.out 6; have hfz4_7 := blk_frozen BK104.out 7; have hfz4_8 := blk_frozen BK104.out 8; have hfz4_9 := blk_frozen BK104.out 9; have hfz4_10 := blk_frozen BK104.out 10) | ((with_reducible refine gate_callee (f := 78) rfl ?_); refine goesL_ (some 13) rfl rfl Tryd.func78 (by kernel_rfl) rfl #[.int .i64 (a0_0.size : Int), .int .i64 a0_3, .agg #[.int .u64 a0_9, .slice A0_10 l0_10.length c0_10]] rfl (by (try simp only [List.map_toArray, List.map_cons, List.map_nil]); first | done | rfl | (simp only [List.length_drop, List.length_take]; rfl)) ?_; (with_reducible refine (proof_Shape.calls (a0_0.size : Int) a0_3 a0_9 _ _ l0_10 t105 _ ?side1 ?side2 A2.out).mono ?_); (case side1 => repeat (first | exact (Kd.C_below HR0_10.out HB.out) | (with_reducible refine Kd.C_alloc ?_ _) | (with_reducible refine Kd.C_drewN ?_ _) | (with_reducible refine Kd.C_drew ?_))); (case side2 => exact HC0_10.out); rintro e w5 ⟨rfl, hb⟩; refine ⟨_, rfl, ?_⟩; have n0_ := aM' (blk_below (g := gb104) (o := .cells #[.string a0_0, .int .u64 a0_1, .int .u64 a0_2, .int .i64 a0_3, .bool a0_4, .string a0_5, .string a0_6, .int .u64 a0_7, .int .u64 a0_8, .int .u64 a0_9, .slice A0_10 l0_10.length c0_10] 134 (0, 0)) (by (with_reducible repeat (first | refine blk_drewN ?_ _ | refine blk_drew ?_ | refine blk_alloc ?_ _)); exact BK104.out) hb); have n1_ := aM' (below_step (by repeat (first | (with_reducible first | exact HB.out | apply below_alloc | apply pw_below_drewN | apply below_drew1 | refine below_set ?_ GE104.out) | exact HB.out)) hb); clear BK104; clear HB; have BK104 := n0_; have HB := n1_; clear n0_ n1_; (try clear hb); (try clear hb2); (try clear hk); (try clear hi)))
 go_ret
 exact ⟨by first | rfl | (simp [errW_none, errW_some] <;> rfl) | (simp [*, errW_none, errW_some] <;> rfl), by repeat (first | (with_reducible first | exact HB.out | apply below_alloc | apply pw_below_drewN | apply below_drew1 | refine below_set ?_ GE104.out) | exact HB.out)⟩
def paymasterref07_LeafText.T6 : Bool × List (List Nat × List Nat) := (true, [([], []), ([0], [0]), ([1], [1]), ([2], [2]), ([3], [3]), ([4], [4]), ([], []), ([6], [6]), ([5, 7], [5, 7]), ([], []), ([8, 9], [8, 9]), ([], []), ([11], [11]), ([12], [12]), ([10, 13], [10, 13]), ([14, 13, 0, 1, 2, 3, 4, 5, 6, 7, 8, 9, 10, 11, 12, 13, 14], [14])])
def paymasterref07_LeafText.B6 : List Nat := [0, 1, 3, 7, 15, 31, 0, 64, 255, 0, 1023, 0, 2048, 6144, 16383, 32767]
theorem paymasterref07_LeafText.tab6 : rtab .any (opsOf Tryd.f163 6) = paymasterref07_LeafText.T6 := by kernel_rfl
theorem paymasterref07_LeafText.bits6 : waitsOk paymasterref07_LeafText.T6.2 paymasterref07_LeafText.B6 = true := by kernel_rfl
def paymasterref07_LeafNode.T3 : Bool × List (List Nat × List Nat) := (true, [([], []), ([], []), ([1], [1]), ([0, 2, 2], [0, 2]), ([], []), ([4], [4]), ([3, 5], [3, 5]), ([6, 3, 0, 1, 2, 3, 4, 5, 6], [6])])
def paymasterref07_LeafNode.B3 : List Nat := [0, 0, 2, 7, 0, 16, 63, 127]
theorem paymasterref07_LeafNode.tab3 : rtab .any (opsOf Tryd.f135 3) = paymasterref07_LeafNode.T3 := by kernel_rfl
theorem paymasterref07_LeafNode.bits3 : waitsOk paymasterref07_LeafNode.T3.2 paymasterref07_LeafNode.B3 = true := by kernel_rfl
end Go.Proofs.YtijfifphcchbbaaDoor.P
namespace Go.Proofs.YtijfifphcchbbaaDoor.P
open Go.RowKit Go.Proofs.YtijfifphcchbbaaDoorW.PrintWords Go.Proofs.YtijfifphcchbbaaDoorW.PrintLast Go.Proofs.YtijfifphcchbbaaDoorW.PrintMore
set_option linter.unusedVariables false
set_option linter.unusedSimpArgs false
set_option linter.unnecessarySimpa false
attribute [local go_sem] sel_true
def nodeText (l r : SNode) : ByteArray := (⟨#[1]⟩ : ByteArray) ++ l.f0 ++ u128B l.f1.f0 l.f1.f1 ++ r.f0 ++ u128B r.f1.f0 r.f1.f1
theorem nodeText_size (l r : SNode) : (nodeText l r).size = 33 + l.f0.size + r.f0.size := by
 simp only [nodeText, ByteArray.size_append, u128B_size]
 show 1 + _ + _ + _ + _ = _
 omega
structure NtS (w W : World) (l r : SNode) : Prop where
 hB : Below w.heap.size w W
 h0 : W.heap[w.heap.size]? = some (.cells #[.string l.f0, .int .u64 l.f1.f0, .int .u64 l.f1.f1] 28 (0, 0))
 h1 : W.heap[w.heap.size + 1]? = some (.cells #[.string r.f0, .int .u64 r.f1.f0, .int .u64 r.f1.f1] 28 (0, 0))
theorem NtS.below {w W W' : World} {l r : SNode} (h : NtS w W l r) (hb : Below W.heap.size W W') : NtS w W' l r := ⟨h.hB.trans (hb.mono h.hB.size), blk_below h.h0 hb, blk_below h.h1 hb⟩
set_option maxRecDepth 100000 in
set_option maxHeartbeats 2000000 in
theorem nodeText.calls (l r : SNode) (hl : l.f0.size ≤ 1000000) (hr : r.f0.size ≤ 1000000) (w : World) :
  Calls Tryd.prog 64 #[.agg #[.string l.f0, .int .u64 l.f1.f0, .int .u64 l.f1.f1], .agg #[.string r.f0, .int .u64 r.f1.f0, .int .u64 r.f1.f1]] w fun e w' => e = .returned (.string (nodeText l r)) ∧ Below w.heap.size w w' := by
 have HL := aM' hl
 have HR := aM' hr
 have HT := aM' (show nodeText l r = (⟨#[1]⟩ : ByteArray) ++ l.f0 ++ u128B l.f1.f0 l.f1.f1 ++ r.f0 ++ u128B r.f1.f0 r.f1.f1 from rfl)
 have hz1 : ByteArray.size (⟨#[1]⟩ : ByteArray) = 1 := rfl
 have HZ := aM' hz1
 clear hl hr hz1
 obtain ⟨bl, hbl⟩ : ∃ b, b = u128B l.f1.f0 l.f1.f1 := ⟨_, rfl⟩
 obtain ⟨br, hbr⟩ : ∃ b, b = u128B r.f1.f0 r.f1.f1 := ⟨_, rfl⟩
 have HBl := aM' (show bl.size = 16 by rw [hbl, u128B_size])
 have HBr := aM' (show br.size = 16 by rw [hbr, u128B_size])
 have HFl := aM' (show u128_Bytes.f l.f1.f0 l.f1.f1 = some bl by rw [hbl]; exact u128Bytes_eq _ _)
 have HFr := aM' (show u128_Bytes.f r.f1.f0 r.f1.f1 = some br by rw [hbr]; exact u128Bytes_eq _ _)
 rw [← hbl, ← hbr] at HT
 clear hbl hbr
 go_enter Tryd.func64, Tryd.ntmps64
 go_wp2
 have HS := aM' (show NtS w ((w.alloc (.cells #[.string l.f0, .int .u64 l.f1.f0, .int .u64 l.f1.f1] 28)).alloc (.cells #[.string r.f0, .int .u64 r.f1.f0, .int .u64 r.f1.f1] 28)) l r from
  ⟨below_alloc (below_alloc (Below.refl _ _) _) _, blk_alloc (blk_new w _) _, by have := blk_new (w.alloc (.cells #[.string l.f0, .int .u64 l.f1.f0, .int .u64 l.f1.f1] 28)) (.cells #[.string r.f0, .int .u64 r.f1.f0, .int .u64 r.f1.f1] 28); rwa [World.size_alloc] at this⟩)
 refine region_inv (fun l_ a W => ∃ γ : Nat, a = ({ tmps := #[.agg #[.string l.f0, .int .u64 l.f1.f0, .int .u64 l.f1.f1], .agg #[.string r.f0, .int .u64 r.f1.f0, .int .u64 r.f1.f1], .pointer (some ⟨w.heap.size, 0, none⟩), .pointer (some ⟨w.heap.size + 1, 0, none⟩), sel (l_ 16) (.string ((⟨#[1]⟩ : ByteArray) ++ l.f0 ++ bl ++ r.f0 ++ br)) (.string ⟨#[]⟩), sel (l_ 0) (.slice (some ⟨γ, 0, none⟩) 1 1) (undef), sel (l_ 1) (.string (⟨#[1]⟩ : ByteArray)) (undef), sel (l_ 2) (.pointer (some ⟨w.heap.size, 0, none⟩)) (undef), sel (l_ 3) (.string l.f0) (undef), sel (l_ 4) (.string ((⟨#[1]⟩ : ByteArray) ++ l.f0)) (undef), sel (l_ 5) (.pointer (some ⟨w.heap.size, 1, none⟩)) (undef), sel (l_ 6) (.agg #[.int .u64 l.f1.f0, .int .u64 l.f1.f1]) (undef), sel (l_ 7) (.string bl) (undef), sel (l_ 8) (.string ((⟨#[1]⟩ : ByteArray) ++ l.f0 ++ bl)) (undef), sel (l_ 9) (.pointer (some ⟨w.heap.size + 1, 0, none⟩)) (undef), sel (l_ 10) (.string r.f0) (undef), sel (l_ 11) (.string ((⟨#[1]⟩ : ByteArray) ++ l.f0 ++ bl ++ r.f0)) (undef), sel (l_ 12) (.pointer (some ⟨w.heap.size + 1, 1, none⟩)) (undef), sel (l_ 13) (.agg #[.int .u64 r.f1.f0, .int .u64 r.f1.f1]) (undef), sel (l_ 14) (.string br) (undef), sel (l_ 15) (.string ((⟨#[1]⟩ : ByteArray) ++ l.f0 ++ bl ++ r.f0 ++ br)) (undef)], defers := [] } : Act) ∧ (NtS w W l r ∧ (l_ 0 = true → W.heap[γ]? = some (.cells #[.int .u8 1] 5 (0, 0))))) 17 rfl rfl (by kernel_rfl) ?h0 ?hend ?hstep
 case h0 => exact ⟨0, rfl, HS.out.below (below_drew (Below.refl _ _)), fun h => by cases h⟩
 case hstep =>
  refine rg_cons (rg_cons (rg_cons (rg_cons (rg_cons (rg_cons (rg_cons (rg_cons (rg_cons (rg_cons (rg_cons (rg_cons (rg_cons (rg_cons (rg_cons (rg_cons (rg_cons (rg_nil) ?s0) ?s1) ?s2) ?s3) ?s4) ?s5) ?s6) ?s7) ?s8) ?s9) ?s10) ?s11) ?s12) ?s13) ?s14) ?s15) ?s16
  case s0 =>
   refine rg_step rfl ?_
   rintro l_ a W ⟨γ, rfl, hI⟩ hl hd
   clear hd
   refine rg_val (v := .slice (some ⟨W.heap.size, 0, none⟩) 1 1) (w' := W.alloc (.cells #[.int .u8 1] 5)) rfl (by go_simp) ?_
   refine ⟨W.heap.size, ?_, ?_⟩
   ·
    simp only [Act.put, List.setIfInBounds_toArray, List.set_cons_zero, List.set_cons_succ]; rfl
   ·
    exact ⟨hI.1.below (below_alloc (Below.refl _ _) _), fun _ => blk_new W _⟩
  case s1 =>
   refine rg_step rfl ?_
   rintro l_ a W ⟨γ, rfl, hI⟩ hl hd
   have d0 := hd 0 (by decide)
   clear hd
   have y0 := blk_cell (hI.2 d0) 0
   simp at y0
   refine rg_val (v := .string (⟨#[1]⟩ : ByteArray)) (w' := W) rfl ?_ ?_
   ·
    have hcv := run_convert_bytes_arg (P := Tryd.prog) (w := W) 54 5 Tryd.underlying54 Tryd.underlying5 γ 0 1 1 [1] rfl (fun i hi => by obtain rfl : i = 0 := (by omega); exact y0) 9 Tryd.underlying9
    rw [show strOfNums [1] = (⟨#[1]⟩ : ByteArray) from rfl] at hcv
    go_simp
   refine ⟨γ, ?_, ?_⟩
   ·
    simp only [Act.put, List.setIfInBounds_toArray, List.set_cons_zero, List.set_cons_succ]; rfl
   ·
    exact hI
  case s2 =>
   refine rg_step rfl ?_
   rintro l_ a W ⟨γ, rfl, hI⟩ hl hd
   clear hd
   refine rg_val (v := .pointer (some ⟨w.heap.size, 0, none⟩)) (w' := W) rfl (by go_simp) ?_
   refine ⟨γ, ?_, ?_⟩
   ·
    simp only [Act.put, List.setIfInBounds_toArray, List.set_cons_zero, List.set_cons_succ]; rfl
   ·
    exact hI
  case s3 =>
   refine rg_step rfl ?_
   rintro l_ a W ⟨γ, rfl, hI⟩ hl hd
   have d2 := hd 2 (by decide)
   clear hd
   have x0 := blk_cell (hI.1.h0) 0
   simp at x0
   refine rg_val (v := .string l.f0) (w' := W) rfl (by go_simp) ?_
   refine ⟨γ, ?_, ?_⟩
   ·
    simp only [Act.put, List.setIfInBounds_toArray, List.set_cons_zero, List.set_cons_succ]; rfl
   ·
    exact hI
  case s4 =>
   refine rg_step rfl ?_
   rintro l_ a W ⟨γ, rfl, hI⟩ hl hd
   have d1 := hd 1 (by decide)
   have d3 := hd 3 (by decide)
   clear hd
   refine rg_val (v := .string ((⟨#[1]⟩ : ByteArray) ++ l.f0)) (w' := W) rfl (by go_simp; have := HL.out; have := HR.out; have := HBl.out; have := HBr.out; omega) ?_
   refine ⟨γ, ?_, ?_⟩
   ·
    simp only [Act.put, List.setIfInBounds_toArray, List.set_cons_zero, List.set_cons_succ]; rfl
   ·
    exact hI
  case s5 =>
   refine rg_step rfl ?_
   rintro l_ a W ⟨γ, rfl, hI⟩ hl hd
   clear hd
   refine rg_val (v := .pointer (some ⟨w.heap.size, 1, none⟩)) (w' := W) rfl (by go_simp) ?_
   refine ⟨γ, ?_, ?_⟩
   ·
    simp only [Act.put, List.setIfInBounds_toArray, List.set_cons_zero, List.set_cons_succ]; rfl
   ·
    exact hI
  case s6 =>
   refine rg_step rfl ?_
   rintro l_ a W ⟨γ, rfl, hI⟩ hl hd
   have d5 := hd 5 (by decide)
   clear hd
   have x1 := blk_cell (hI.1.h0) 1
   have x2 := blk_cell (hI.1.h0) 2
   simp at x1 x2
   refine rg_val (v := .agg #[.int .u64 l.f1.f0, .int .u64 l.f1.f1]) (w' := W) rfl (by go_simp) ?_
   refine ⟨γ, ?_, ?_⟩
   ·
    simp only [Act.put, List.setIfInBounds_toArray, List.set_cons_zero, List.set_cons_succ]; rfl
   ·
    exact hI
  case s7 =>
   refine rg_step rfl ?_
   rintro l_ a W ⟨γ, rfl, hI⟩ hl hd
   have d6 := hd 6 (by decide)
   clear hd
   refine rg_call rfl (by go_simp; exact ⟨rfl, rfl⟩) ?_
   refine (u128_Bytes.calls _ _ _ _ HFl.out).mono ?_
   rintro x W' ⟨rfl, hb⟩
   refine ⟨_, rfl, γ, ?_, ?_⟩
   ·
    simp only [Act.put, List.setIfInBounds_toArray, List.set_cons_zero, List.set_cons_succ]; rfl
   ·
    exact ⟨hI.1.below hb, fun h => blk_below (hI.2 h) hb⟩
  case s8 =>
   refine rg_step rfl ?_
   rintro l_ a W ⟨γ, rfl, hI⟩ hl hd
   have d4 := hd 4 (by decide)
   have d7 := hd 7 (by decide)
   clear hd
   refine rg_val (v := .string ((⟨#[1]⟩ : ByteArray) ++ l.f0 ++ bl)) (w' := W) rfl (by go_simp; have := HL.out; have := HR.out; have := HBl.out; have := HBr.out; omega) ?_
   refine ⟨γ, ?_, ?_⟩
   ·
    simp only [Act.put, List.setIfInBounds_toArray, List.set_cons_zero, List.set_cons_succ]; rfl
   ·
    exact hI
  case s9 =>
   refine rg_step rfl ?_
   rintro l_ a W ⟨γ, rfl, hI⟩ hl hd
   clear hd
   refine rg_val (v := .pointer (some ⟨w.heap.size + 1, 0, none⟩)) (w' := W) rfl (by go_simp) ?_
   refine ⟨γ, ?_, ?_⟩
   ·
    simp only [Act.put, List.setIfInBounds_toArray, List.set_cons_zero, List.set_cons_succ]; rfl
   ·
    exact hI
  case s10 =>
   refine rg_step rfl ?_
   rintro l_ a W ⟨γ, rfl, hI⟩ hl hd
   have d9 := hd 9 (by decide)
   clear hd
   have x0 := blk_cell (hI.1.h1) 0
   simp at x0
   refine rg_val (v := .string r.f0) (w' := W) rfl (by go_simp) ?_
   refine ⟨γ, ?_, ?_⟩
   ·
    simp only [Act.put, List.setIfInBounds_toArray, List.set_cons_zero, List.set_cons_succ]; rfl
   ·
    exact hI
  case s11 =>
   refine rg_step rfl ?_
   rintro l_ a W ⟨γ, rfl, hI⟩ hl hd
   have d8 := hd 8 (by decide)
   have d10 := hd 10 (by decide)
   clear hd
   refine rg_val (v := .string ((⟨#[1]⟩ : ByteArray) ++ l.f0 ++ bl ++ r.f0)) (w' := W) rfl (by go_simp; have := HL.out; have := HR.out; have := HBl.out; have := HBr.out; omega) ?_
   refine ⟨γ, ?_, ?_⟩
   ·
    simp only [Act.put, List.setIfInBounds_toArray, List.set_cons_zero, List.set_cons_succ]; rfl
   ·
    exact hI
  case s12 =>
   refine rg_step rfl ?_
   rintro l_ a W ⟨γ, rfl, hI⟩ hl hd
   clear hd
   refine rg_val (v := .pointer (some ⟨w.heap.size + 1, 1, none⟩)) (w' := W) rfl (by go_simp) ?_
   refine ⟨γ, ?_, ?_⟩
   ·
    simp only [Act.put, List.setIfInBounds_toArray, List.set_cons_zero, List.set_cons_succ]; rfl
   ·
    exact hI
  case s13 =>
   refine rg_step rfl ?_
   rintro l_ a W ⟨γ, rfl, hI⟩ hl hd
   have d12 := hd 12 (by decide)
   clear hd
   have x1 := blk_cell (hI.1.h1) 1
   have x2 := blk_cell (hI.1.h1) 2
   simp at x1 x2
   refine rg_val (v := .agg #[.int .u64 r.f1.f0, .int .u64 r.f1.f1]) (w' := W) rfl (by go_simp) ?_
   refine ⟨γ, ?_, ?_⟩
   ·
    simp only [Act.put, List.setIfInBounds_toArray, List.set_cons_zero, List.set_cons_succ]; rfl
   ·
    exact hI
  case s14 =>
   refine rg_step rfl ?_
   rintro l_ a W ⟨γ, rfl, hI⟩ hl hd
   have d13 := hd 13 (by decide)
   clear hd
   refine rg_call rfl (by go_simp; exact ⟨rfl, rfl⟩) ?_
   refine (u128_Bytes.calls _ _ _ _ HFr.out).mono ?_
   rintro x W' ⟨rfl, hb⟩
   refine ⟨_, rfl, γ, ?_, ?_⟩
   ·
    simp only [Act.put, List.setIfInBounds_toArray, List.set_cons_zero, List.set_cons_succ]; rfl
   ·
    exact ⟨hI.1.below hb, fun h => blk_below (hI.2 h) hb⟩
  case s15 =>
   refine rg_step rfl ?_
   rintro l_ a W ⟨γ, rfl, hI⟩ hl hd
   have d11 := hd 11 (by decide)
   have d14 := hd 14 (by decide)
   clear hd
   refine rg_val (v := .string ((⟨#[1]⟩ : ByteArray) ++ l.f0 ++ bl ++ r.f0 ++ br)) (w' := W) rfl (by go_simp; have := HL.out; have := HR.out; have := HBl.out; have := HBr.out; omega) ?_
   refine ⟨γ, ?_, ?_⟩
   ·
    simp only [Act.put, List.setIfInBounds_toArray, List.set_cons_zero, List.set_cons_succ]; rfl
   ·
    exact hI
  case s16 =>
   refine rg_step rfl ?_
   rintro l_ a W ⟨γ, rfl, hI⟩ hl hd
   have d15 := hd 15 (by decide)
   clear hd
   refine rg_val (v := .string ((⟨#[1]⟩ : ByteArray) ++ l.f0 ++ bl ++ r.f0 ++ br)) (w' := W) rfl (by go_simp) ?_
   refine ⟨γ, ?_, ?_⟩
   ·
    simp only [Act.put, List.setIfInBounds_toArray, List.set_cons_zero, List.set_cons_succ]; rfl
   ·
    exact hI
 case hend =>
  rintro l_ a W ⟨γ, rfl, hI⟩ hall
  have e0 := hall 0 (by decide)
  have e1 := hall 1 (by decide)
  have e2 := hall 2 (by decide)
  have e3 := hall 3 (by decide)
  have e4 := hall 4 (by decide)
  have e5 := hall 5 (by decide)
  have e6 := hall 6 (by decide)
  have e7 := hall 7 (by decide)
  have e8 := hall 8 (by decide)
  have e9 := hall 9 (by decide)
  have e10 := hall 10 (by decide)
  have e11 := hall 11 (by decide)
  have e12 := hall 12 (by decide)
  have e13 := hall 13 (by decide)
  have e14 := hall 14 (by decide)
  have e15 := hall 15 (by decide)
  have e16 := hall 16 (by decide)
  clear hall
  simp only [e0, e1, e2, e3, e4, e5, e6, e7, e8, e9, e10, e11, e12, e13, e14, e15, e16, sel_true]
  clear e0 e1 e2 e3 e4 e5 e6 e7 e8 e9 e10 e11 e12 e13 e14 e15 e16
  have HI := aM' hI.1
  clear hI
  go_wp2
  go_ret
  exact ⟨by rw [HT.out]; rfl, HI.out.hB⟩
def tag_NodeText.f (a0 : ByteArray) (a1 a2 : Int) (b0 : ByteArray) (b1 b2 : Int) : Option ByteArray := if a0.size ≤ 1000000 ∧ b0.size ≤ 1000000 then some (nodeText ⟨a0, ⟨a1, a2⟩⟩ ⟨b0, ⟨b1, b2⟩⟩) else none
theorem tag_NodeText.calls (a0 : ByteArray) (a1 a2 : Int) (b0 : ByteArray) (b1 b2 : Int) (r : ByteArray) (w : World) (h : tag_NodeText.f a0 a1 a2 b0 b1 b2 = some r) :
  Calls Tryd.prog 64 #[.agg #[.string a0, .int .u64 a1, .int .u64 a2], .agg #[.string b0, .int .u64 b1, .int .u64 b2]] w fun e w' => e = .returned (.string r) ∧ Below w.heap.size w w' := by
 unfold tag_NodeText.f at h
 split at h
 ·
  rename_i hh
  obtain rfl := Option.some.inj h
  exact nodeText.calls ⟨a0, ⟨a1, a2⟩⟩ ⟨b0, ⟨b1, b2⟩⟩ hh.1 hh.2 w
 ·
  cases h
end Go.Proofs.YtijfifphcchbbaaDoor.P
namespace Go.Proofs.YtijfifphcchbbaaDoor.P
open Go.RowKit Go.Proofs.YtijfifphcchbbaaDoorW.PrintWords Go.Proofs.YtijfifphcchbbaaDoorW.PrintLast Go.Proofs.YtijfifphcchbbaaDoorW.PrintMore
attribute [local go_sem] max2_int min2_int max_two min_two max_three min_three max_four min_four-- for this text's walks alone
set_option linter.unusedVariables false
set_option linter.unusedSimpArgs false
def node_Join.j0 : Nat → Int → Bool → ByteArray → Int → Int → ByteArray → Int → Int → Option (ByteArray × Int × Int × Int)
 | 0, _, _, _, _, _, _, _, _ => none
 | k + 1, x0, x19, x171000, x171001, x171002, x172000, x172001, x172002 => if x19 = true then (some ((⟨#[]⟩ : ByteArray), 0, 0, 70)) else ((u128_Add.f x171001 x171002 x172001 x172002).bind fun bt175 => (if bt175.2.2 = 0 then ((tag_NodeText.f x171000 x171001 x171002 x172000 x172001 x172002).bind fun t179 => ((tag_Digest.f x0 t179).bind fun t180 => (some (t180, bt175.1, bt175.2.1, 0)))) else (some ((⟨#[]⟩ : ByteArray), 0, 0, 10))))
def node_Join.f (k : Nat) (a0 : Int) (a1_0 : ByteArray) (a1_1 : Int) (a1_2 : Int) (a2_0 : ByteArray) (a2_1 : Int) (a2_2 : Int) : Option (ByteArray × Int × Int × Int) := (node_Of.f a0 a1_0 a1_1 a1_2).bind fun t173 => (if t173 = true then ((node_Of.f a0 a2_0 a2_1 a2_2).bind fun t174 => (node_Join.j0 k a0 (!t174) a1_0 a1_1 a1_2 a2_0 a2_1 a2_2)) else (node_Join.j0 k a0 true a1_0 a1_1 a1_2 a2_0 a2_1 a2_2))
def node_Join.T6 : Bool × List (List Nat × List Nat) := (true, [([], []), ([], []), ([], []), ([1, 2], [1, 2]), ([0, 3, 3], [0, 3]), ([], []), ([4, 5], [4, 5]), ([6, 4, 0, 1, 2, 3, 4, 5, 6], [6]), ([7, 0, 1, 2, 3, 4, 5, 6, 7], [])])
def node_Join.B6 : List Nat := [0, 0, 0, 6, 15, 0, 63, 127, 255]
theorem node_Join.tab6 : rtab .any (opsOf Tryd.f21 6) = node_Join.T6 := by kernel_rfl
theorem node_Join.bits6 : waitsOk node_Join.T6.2 node_Join.B6 = true := by kernel_rfl
set_option maxHeartbeats 8000000 in
set_option maxRecDepth 100000 in
theorem node_Join.calls (k : Nat) (a0 : Int) (a1_0 : ByteArray) (a1_1 : Int) (a1_2 : Int) (a2_0 : ByteArray) (a2_1 : Int) (a2_2 : Int) (r1 : ByteArray) (r2 : Int) (r3 : Int) (r4 : Int) (w : World) (hK : Laid w) (h : node_Join.f k a0 a1_0 a1_1 a1_2 a2_0 a2_1 a2_2 = some (r1, r2, r3, r4)) :
  Calls Tryd.prog 21 #[.int .i64 a0, .agg #[.string a1_0, .int .u64 a1_1, .int .u64 a1_2], .agg #[.string a2_0, .int .u64 a2_1, .int .u64 a2_2]] w fun e w' => e = .returned (.tuple #[.agg #[.string r1, .int .u64 r2, .int .u64 r3], .int .i64 r4]) ∧ Below w.heap.size w w' := by
 have hu28 := Tryd.underlying28
 have hu26 := Tryd.underlying26
 have HB := aM' (Below.refl w.heap.size w)
 have HLD := aM' hK
 clear hK
 have H : ((node_Of.f a0 a1_0 a1_1 a1_2).bind fun t173 => (if t173 = true then ((node_Of.f a0 a2_0 a2_1 a2_2).bind fun t174 => (node_Join.j0 k a0 (!t174) a1_0 a1_1 a1_2 a2_0 a2_1 a2_2)) else (node_Join.j0 k a0 true a1_0 a1_1 a1_2 a2_0 a2_1 a2_2))) = some (r1, r2, r3, r4) := h
 clear h
 have HC4 := aM' H
 clear H
 go_enter Tryd.func21, Tryd.ntmps21
 go_upto_region 1 with (first | ((with_reducible refine gate_dst (N := 4) rfl ?_); refine box_event ?hg (N := 4) ?hd (cs := #[.string a1_0, .int .u64 a1_1, .int .u64 a1_2]) (t := 28) ?hr ?_; (case hd => rfl); (case hg => rfl); (case hr => first | (go_simp; done) | (go_simp; rfl)); intro gb170 hg w5 hbox hb; have n0_ := aM' (below_step (by repeat (first | (with_reducible first | exact HB.out | apply below_alloc | apply pw_below_drewN | apply below_drew1) | exact HB.out)) hb); have n1_ := aM' (hbox); have n2_ := aM' ((by rw [hg]; exact (below_size (by repeat (first | (with_reducible first | exact HB.out | apply below_alloc | apply pw_below_drewN | apply below_drew1) | exact HB.out))) : w.heap.size ≤ gb170)); have n3_ := aM' ((by rw [hg]; exact (below_size (by repeat (first | (with_reducible first | exact HB.out | apply below_alloc | apply pw_below_drewN | apply below_drew1) | exact HB.out))) : w.heap.size ≤ gb170)); clear HB; have HB := n0_; have BK170 := n1_; have GW170 := n2_; have GE170 := n3_; clear n0_ n1_ n2_ n3_; clear hb hbox hg) | ((with_reducible refine gate_dst (N := 5) rfl ?_); refine box_event ?hg (N := 5) ?hd (cs := #[.string a2_0, .int .u64 a2_1, .int .u64 a2_2]) (t := 28) ?hr ?_; (case hd => rfl); (case hg => rfl); (case hr => first | (go_simp; done) | (go_simp; rfl)); intro gb171 hg w6 hbox hb; have n0_ := aM' (blk_below (g := gb170) (o := .cells #[.string a1_0, .int .u64 a1_1, .int .u64 a1_2] 28 (0, 0)) (by (with_reducible repeat (first | refine blk_drewN ?_ _ | refine blk_drew ?_ | refine blk_alloc ?_ _)); exact BK170.out) hb); have n1_ := aM' (below_step (by repeat (first | (with_reducible first | exact HB.out | apply below_alloc | apply pw_below_drewN | apply below_drew1 | refine below_set ?_ GE170.out) | exact HB.out)) hb); have n2_ := aM' (hbox); have n3_ := aM' ((by rw [hg]; exact (below_size (by repeat (first | (with_reducible first | exact HB.out | apply below_alloc | apply pw_below_drewN | apply below_drew1 | refine below_set ?_ GE170.out) | exact HB.out))) : w.heap.size ≤ gb171)); have n4_ := aM' ((by rw [hg]; exact (below_size (by repeat (first | (with_reducible first | exact HB.out | apply below_alloc | apply pw_below_drewN | apply below_drew1 | refine below_set ?_ GE170.out) | exact HB.out))) : w.heap.size ≤ gb171)); have n5_ := aM' ((by rw [hg]; exact Nat.ne_of_lt (blk_lt (g := gb170) (o := .cells #[.string a1_0, .int .u64 a1_1, .int .u64 a1_2] 28 (0, 0)) (by (with_reducible repeat (first | refine blk_drewN ?_ _ | refine blk_drew ?_ | refine blk_alloc ?_ _)); exact BK170.out)) : gb170 ≠ gb171)); have n6_ := aM' ((by rw [hg]; exact Nat.ne_of_gt (blk_lt (g := gb170) (o := .cells #[.string a1_0, .int .u64 a1_1, .int .u64 a1_2] 28 (0, 0)) (by (with_reducible repeat (first | refine blk_drewN ?_ _ | refine blk_drew ?_ | refine blk_alloc ?_ _)); exact BK170.out)) : gb171 ≠ gb170)); clear BK170; clear HB; have BK170 := n0_; have HB := n1_; have BK171 := n2_; have GW171 := n3_; have GE171 := n4_; have NB170_171 := n5_; have NB171_170 := n6_; clear n0_ n1_ n2_ n3_ n4_ n5_ n6_; clear hb hbox hg) | ((with_reducible refine gate_dst (N := 6) rfl ?_); refine box_event ?hg (N := 6) ?hd (cs := #[.string (⟨#[]⟩ : ByteArray), .int .u64 0, .int .u64 0]) (t := 28) ?hr ?_; (case hd => rfl); (case hg => rfl); (case hr => first | (go_simp; done) | (go_simp; rfl)); intro gb172 hg w7 hbox hb; have n0_ := aM' (blk_below (g := gb170) (o := .cells #[.string a1_0, .int .u64 a1_1, .int .u64 a1_2] 28 (0, 0)) (by (with_reducible repeat (first | refine blk_drewN ?_ _ | refine blk_drew ?_ | refine blk_alloc ?_ _)); exact BK170.out) hb); have n1_ := aM' (blk_below (g := gb171) (o := .cells #[.string a2_0, .int .u64 a2_1, .int .u64 a2_2] 28 (0, 0)) (by (with_reducible repeat (first | refine blk_drewN ?_ _ | refine blk_drew ?_ | refine blk_alloc ?_ _)); exact BK171.out) hb); have n2_ := aM' (below_step (by repeat (first | (with_reducible first | exact HB.out | apply below_alloc | apply pw_below_drewN | apply below_drew1 | refine below_set ?_ GE170.out | refine below_set ?_ GE171.out) | exact HB.out)) hb); have n3_ := aM' (hbox); have n4_ := aM' ((by rw [hg]; exact (below_size (by repeat (first | (with_reducible first | exact HB.out | apply below_alloc | apply pw_below_drewN | apply below_drew1 | refine below_set ?_ GE170.out | refine below_set ?_ GE171.out) | exact HB.out))) : w.heap.size ≤ gb172)); have n5_ := aM' ((by rw [hg]; exact (below_size (by repeat (first | (with_reducible first | exact HB.out | apply below_alloc | apply pw_below_drewN | apply below_drew1 | refine below_set ?_ GE170.out | refine below_set ?_ GE171.out) | exact HB.out))) : w.heap.size ≤ gb172)); have n6_ := aM' ((by rw [hg]; exact Nat.ne_of_lt (blk_lt (g := gb170) (o := .cells #[.string a1_0, .int .u64 a1_1, .int .u64 a1_2] 28 (0, 0)) (by (with_reducible repeat (first | refine blk_drewN ?_ _ | refine blk_drew ?_ | refine blk_alloc ?_ _)); exact BK170.out)) : gb170 ≠ gb172)); have n7_ := aM' ((by rw [hg]; exact Nat.ne_of_gt (blk_lt (g := gb170) (o := .cells #[.string a1_0, .int .u64 a1_1, .int .u64 a1_2] 28 (0, 0)) (by (with_reducible repeat (first | refine blk_drewN ?_ _ | refine blk_drew ?_ | refine blk_alloc ?_ _)); exact BK170.out)) : gb172 ≠ gb170)); have n8_ := aM' ((by rw [hg]; exact Nat.ne_of_lt (blk_lt (g := gb171) (o := .cells #[.string a2_0, .int .u64 a2_1, .int .u64 a2_2] 28 (0, 0)) (by (with_reducible repeat (first | refine blk_drewN ?_ _ | refine blk_drew ?_ | refine blk_alloc ?_ _)); exact BK171.out)) : gb171 ≠ gb172)); have n9_ := aM' ((by rw [hg]; exact Nat.ne_of_gt (blk_lt (g := gb171) (o := .cells #[.string a2_0, .int .u64 a2_1, .int .u64 a2_2] 28 (0, 0)) (by (with_reducible repeat (first | refine blk_drewN ?_ _ | refine blk_drew ?_ | refine blk_alloc ?_ _)); exact BK171.out)) : gb172 ≠ gb171)); clear BK170; clear BK171; clear HB; have BK170 := n0_; have BK171 := n1_; have HB := n2_; have BK172 := n3_; have GW172 := n4_; have GE172 := n5_; have NB170_172 := n6_; have NB172_170 := n7_; have NB171_172 := n8_; have NB172_171 := n9_; clear n0_ n1_ n2_ n3_ n4_ n5_ n6_ n7_ n8_ n9_; clear hb hbox hg))
 (try simp only [Act.put, List.setIfInBounds_toArray, List.set_cons_zero, List.set_cons_succ])
 go_cut [19] (fun v19 wc => ∃ (kq : Nat) (x19_3 : Bool), v19 = .bool x19_3 ∧ Aside0 (node_Join.j0 kq a0 x19_3 a1_0 a1_1 a1_2 a2_0 a2_1 a2_2 = some (r1, r2, r3, r4)) ∧ Aside0 (kq ≤ k) ∧ Aside0 (wc.heap[gb170]? = some (.cells #[.string a1_0, .int .u64 a1_1, .int .u64 a1_2] 28 (0, 0))) ∧ Aside0 (wc.heap[gb171]? = some (.cells #[.string a2_0, .int .u64 a2_1, .int .u64 a2_2] 28 (0, 0))) ∧ Aside0 (wc.heap[gb172]? = some (.cells #[.string (⟨#[]⟩ : ByteArray), .int .u64 0, .int .u64 0] 28 (0, 0))) ∧ Aside0 (Below w.heap.size w wc))
 case first =>
  have H := HC4.out
  clear HC4
  replace H := Option.bind_eq_some_iff.mp H
  obtain ⟨t173, A80, H⟩ := H
  replace H : (if t173 = true then ((node_Of.f a0 a2_0 a2_1 a2_2).bind fun t174 => (node_Join.j0 k a0 (!t174) a1_0 a1_1 a1_2 a2_0 a2_1 a2_2)) else (node_Join.j0 k a0 true a1_0 a1_1 a1_2 a2_0 a2_1 a2_2)) = some (r1, r2, r3, r4) := H
  have A8 := aM' A80
  clear A80
  by_cases c9 : t173 = true
  ·
   subst c9
   have H1 : ((node_Of.f a0 a2_0 a2_1 a2_2).bind fun t174 => (node_Join.j0 k a0 (!t174) a1_0 a1_1 a1_2 a2_0 a2_1 a2_2)) = some (r1, r2, r3, r4) := by rw [if_pos rfl] at H; exact H
   clear H
   have H := H1
   clear H1
   replace H := Option.bind_eq_some_iff.mp H
   obtain ⟨t174, A100, H⟩ := H
   replace H : (node_Join.j0 k a0 (!t174) a1_0 a1_1 a1_2 a2_0 a2_1 a2_2) = some (r1, r2, r3, r4) := H
   have A10 := aM' A100
   clear A100
   have H' := aM' H
   clear H
   have hnb11 := NB170_171.out
   have hnc11 := NB171_170.out
   have hnb12 := NB170_172.out
   have hnc12 := NB172_170.out
   have hcz13_0 : w7.cell? ⟨gb170, 0, none⟩ = some (.string a1_0) := (blk_cell BK170.out 0).trans rfl
   have hcz13_1 : w7.cell? ⟨gb170, 1, none⟩ = some (.int .u64 a1_1) := (blk_cell BK170.out 1).trans rfl
   have hcz13_2 : w7.cell? ⟨gb170, 2, none⟩ = some (.int .u64 a1_2) := (blk_cell BK170.out 2).trans rfl
   have hfz13_0 := blk_frozen BK170.out 0
   have hfz13_1 := blk_frozen BK170.out 1
   have hfz13_2 := blk_frozen BK170.out 2
   go_wp2_with (first | ((with_reducible refine gate_callee (f := 20) rfl ?_); refine goesL_ (some 12) rfl rfl Tryd.func20 (by kernel_rfl) rfl #[.int .i64 a0, .agg #[.string a1_0, .int .u64 a1_1, .int .u64 a1_2]] rfl (by (try simp only [List.map_toArray, List.map_cons, List.map_nil]); first | done | rfl | (simp only [List.length_drop, List.length_take]; rfl)) ?_; (with_reducible refine (node_Of.calls a0 a1_0 a1_1 a1_2 true _ A8.out).mono ?_); rintro e w14 ⟨rfl, hb⟩; refine ⟨_, rfl, ?_⟩; have n0_ := aM' (blk_below (g := gb170) (o := .cells #[.string a1_0, .int .u64 a1_1, .int .u64 a1_2] 28 (0, 0)) (by (with_reducible repeat (first | refine blk_drewN ?_ _ | refine blk_drew ?_ | refine blk_alloc ?_ _)); exact BK170.out) hb); have n1_ := aM' (blk_below (g := gb171) (o := .cells #[.string a2_0, .int .u64 a2_1, .int .u64 a2_2] 28 (0, 0)) (by (with_reducible repeat (first | refine blk_drewN ?_ _ | refine blk_drew ?_ | refine blk_alloc ?_ _)); exact BK171.out) hb); have n2_ := aM' (blk_below (g := gb172) (o := .cells #[.string (⟨#[]⟩ : ByteArray), .int .u64 0, .int .u64 0] 28 (0, 0)) (by (with_reducible repeat (first | refine blk_drewN ?_ _ | refine blk_drew ?_ | refine blk_alloc ?_ _)); exact BK172.out) hb); have n3_ := aM' (below_step (by repeat (first | (with_reducible first | exact HB.out | apply below_alloc | apply pw_below_drewN | apply below_drew1 | refine below_set ?_ GE170.out | refine below_set ?_ GE171.out | refine below_set ?_ GE172.out) | exact HB.out)) hb); clear BK170; clear BK171; clear BK172; clear HB; have BK170 := n0_; have BK171 := n1_; have BK172 := n2_; have HB := n3_; clear n0_ n1_ n2_ n3_; (try clear hb); (try clear hb2); (try clear hk); (try clear hi); have hnb15 := NB171_172.out; have hnc15 := NB172_171.out; have hcz16_0 : w14.cell? ⟨gb171, 0, none⟩ = some (.string a2_0) := (blk_cell BK171.out 0).trans rfl; have hcz16_1 : w14.cell? ⟨gb171, 1, none⟩ = some (.int .u64 a2_1) := (blk_cell BK171.out 1).trans rfl; have hcz16_2 : w14.cell? ⟨gb171, 2, none⟩ = some (.int .u64 a2_2) := (blk_cell BK171.out 2).trans rfl; have hfz16_0 := blk_frozen BK171.out 0; have hfz16_1 := blk_frozen BK171.out 1; have hfz16_2 := blk_frozen BK171.out 2) | (go_at_call 20; (with_reducible refine (node_Of.calls a0 a2_0 a2_1 a2_2 t174 _ A10.out).mono ?_); rintro e w17 ⟨rfl, hb⟩; have n0_ := aM' (blk_below (g := gb170) (o := .cells #[.string a1_0, .int .u64 a1_1, .int .u64 a1_2] 28 (0, 0)) (by (with_reducible repeat (first | refine blk_drewN ?_ _ | refine blk_drew ?_ | refine blk_alloc ?_ _)); exact BK170.out) hb); have n1_ := aM' (blk_below (g := gb171) (o := .cells #[.string a2_0, .int .u64 a2_1, .int .u64 a2_2] 28 (0, 0)) (by (with_reducible repeat (first | refine blk_drewN ?_ _ | refine blk_drew ?_ | refine blk_alloc ?_ _)); exact BK171.out) hb); have n2_ := aM' (blk_below (g := gb172) (o := .cells #[.string (⟨#[]⟩ : ByteArray), .int .u64 0, .int .u64 0] 28 (0, 0)) (by (with_reducible repeat (first | refine blk_drewN ?_ _ | refine blk_drew ?_ | refine blk_alloc ?_ _)); exact BK172.out) hb); have n3_ := aM' (below_step (by repeat (first | (with_reducible first | exact HB.out | apply below_alloc | apply pw_below_drewN | apply below_drew1 | refine below_set ?_ GE170.out | refine below_set ?_ GE171.out | refine below_set ?_ GE172.out) | exact HB.out)) hb); clear BK170; clear BK171; clear BK172; clear HB; have BK170 := n0_; have BK171 := n1_; have BK172 := n2_; have HB := n3_; clear n0_ n1_ n2_ n3_; (try clear hb); (try clear hb2); (try clear hk); (try clear hi)))
   go_meet
   case rel => exact ⟨_, (!t174), (by first | rfl | (simp; done) | (simp [*]; done)), H', ⟨by first | omega | exact Nat.le_refl _⟩, ⟨by (with_reducible repeat (first | refine blk_drewN ?_ _ | refine blk_drew ?_ | refine blk_alloc ?_ _)); exact BK170.out⟩, ⟨by (with_reducible repeat (first | refine blk_drewN ?_ _ | refine blk_drew ?_ | refine blk_alloc ?_ _)); exact BK171.out⟩, ⟨by (with_reducible repeat (first | refine blk_drewN ?_ _ | refine blk_drew ?_ | refine blk_alloc ?_ _)); exact BK172.out⟩, ⟨by repeat (first | (with_reducible first | exact HB.out | apply below_alloc | apply pw_below_drewN | apply below_drew1 | refine below_set ?_ GE170.out | refine below_set ?_ GE171.out | refine below_set ?_ GE172.out) | exact HB.out)⟩⟩
  ·
   replace c9 := Bool.eq_false_iff.mpr c9
   subst c9
   have H1 : (node_Join.j0 k a0 true a1_0 a1_1 a1_2 a2_0 a2_1 a2_2) = some (r1, r2, r3, r4) := by rw [if_neg (show ¬ (false = true) by decide)] at H; exact H
   clear H
   have H := H1
   clear H1
   have H' := aM' H
   clear H
   have hnb18 := NB170_171.out
   have hnc18 := NB171_170.out
   have hnb19 := NB170_172.out
   have hnc19 := NB172_170.out
   have hcz20_0 : w7.cell? ⟨gb170, 0, none⟩ = some (.string a1_0) := (blk_cell BK170.out 0).trans rfl
   have hcz20_1 : w7.cell? ⟨gb170, 1, none⟩ = some (.int .u64 a1_1) := (blk_cell BK170.out 1).trans rfl
   have hcz20_2 : w7.cell? ⟨gb170, 2, none⟩ = some (.int .u64 a1_2) := (blk_cell BK170.out 2).trans rfl
   have hfz20_0 := blk_frozen BK170.out 0
   have hfz20_1 := blk_frozen BK170.out 1
   have hfz20_2 := blk_frozen BK170.out 2
   go_wp2_with (first | ((with_reducible refine gate_callee (f := 20) rfl ?_); refine goesL_ (some 12) rfl rfl Tryd.func20 (by kernel_rfl) rfl #[.int .i64 a0, .agg #[.string a1_0, .int .u64 a1_1, .int .u64 a1_2]] rfl (by (try simp only [List.map_toArray, List.map_cons, List.map_nil]); first | done | rfl | (simp only [List.length_drop, List.length_take]; rfl)) ?_; (with_reducible refine (node_Of.calls a0 a1_0 a1_1 a1_2 false _ A8.out).mono ?_); rintro e w21 ⟨rfl, hb⟩; refine ⟨_, rfl, ?_⟩; have n0_ := aM' (blk_below (g := gb170) (o := .cells #[.string a1_0, .int .u64 a1_1, .int .u64 a1_2] 28 (0, 0)) (by (with_reducible repeat (first | refine blk_drewN ?_ _ | refine blk_drew ?_ | refine blk_alloc ?_ _)); exact BK170.out) hb); have n1_ := aM' (blk_below (g := gb171) (o := .cells #[.string a2_0, .int .u64 a2_1, .int .u64 a2_2] 28 (0, 0)) (by (with_reducible repeat (first | refine blk_drewN ?_ _ | refine blk_drew ?_ | refine blk_alloc ?_ _)); exact BK171.out) hb); have n2_ := aM' (blk_below (g := gb172) (o := .cells #[.string (⟨#[]⟩ : ByteArray), .int .u64 0, .int .u64 0] 28 (0, 0)) (by (with_reducible repeat (first | refine blk_drewN ?_ _ | refine blk_drew ?_ | refine blk_alloc ?_ _)); exact BK172.out) hb); have n3_ := aM' (below_step (by repeat (first | (with_reducible first | exact HB.out | apply below_alloc | apply pw_below_drewN | apply below_drew1 | refine below_set ?_ GE170.out | refine below_set ?_ GE171.out | refine below_set ?_ GE172.out) | exact HB.out)) hb); clear BK170; clear BK171; clear BK172; clear HB; have BK170 := n0_; have BK171 := n1_; have BK172 := n2_; have HB := n3_; clear n0_ n1_ n2_ n3_; (try clear hb); (try clear hb2); (try clear hk); (try clear hi)))
   go_meet
   case rel => exact ⟨_, (true), (by first | rfl | (simp; done) | (simp [*]; done)), H', ⟨by first | omega | exact Nat.le_refl _⟩, ⟨by (with_reducible repeat (first | refine blk_drewN ?_ _ | refine blk_drew ?_ | refine blk_alloc ?_ _)); exact BK170.out⟩, ⟨by (with_reducible repeat (first | refine blk_drewN ?_ _ | refine blk_drew ?_ | refine blk_alloc ?_ _)); exact BK171.out⟩, ⟨by (with_reducible repeat (first | refine blk_drewN ?_ _ | refine blk_drew ?_ | refine blk_alloc ?_ _)); exact BK172.out⟩, ⟨by repeat (first | (with_reducible first | exact HB.out | apply below_alloc | apply pw_below_drewN | apply below_drew1 | refine below_set ?_ GE170.out | refine below_set ?_ GE171.out | refine below_set ?_ GE172.out) | exact HB.out)⟩⟩
 case rest =>
  clear HC4
  try clear c1
  try clear c2
  try clear p2
  try clear c9
  try clear c11
  try clear c12
  try clear c15
  try clear c18
  try clear c19
  try clear c20
  try clear c21
  try clear hcz13_0
  try clear hcz13_1
  try clear hcz13_2
  try clear hcz16_0
  try clear hcz16_1
  try clear hcz16_2
  try clear hcz20_0
  try clear hcz20_1
  try clear hcz20_2
  try clear hfz13_0
  try clear hfz13_1
  try clear hfz13_2
  try clear hfz16_0
  try clear hfz16_1
  try clear hfz16_2
  try clear hfz20_0
  try clear hfz20_1
  try clear hfz20_2
  obtain ⟨kq, x19_3, rfl, HA, HJ3, BK170, BK171, BK172, HB⟩ := hcut
  cases kq with
  | zero => exact absurd HA.out (by simp [node_Join.j0])
  | succ kj3 =>
   have H := HA.out
   clear HA
   simp only [node_Join.j0] at H
   by_cases c22 : x19_3 = true
   ·
    subst c22
    have H1 : (some ((⟨#[]⟩ : ByteArray), 0, 0, 70)) = some (r1, r2, r3, r4) := by rw [if_pos rfl] at H; exact H
    clear H
    have H := H1
    clear H1
    simp only [Option.some.injEq, Prod.mk.injEq] at H
    obtain ⟨rfl, rfl, rfl, rfl⟩ := H
    have hnb23 := NB172_170.out
    have hnc23 := NB170_172.out
    have hnb24 := NB172_171.out
    have hnc24 := NB171_172.out
    have hcz25_0 : wc.cell? ⟨gb172, 0, none⟩ = some (.string (⟨#[]⟩ : ByteArray)) := (blk_cell BK172.out 0).trans rfl
    have hcz25_1 : wc.cell? ⟨gb172, 1, none⟩ = some (.int .u64 0) := (blk_cell BK172.out 1).trans rfl
    have hcz25_2 : wc.cell? ⟨gb172, 2, none⟩ = some (.int .u64 0) := (blk_cell BK172.out 2).trans rfl
    have hfz25_0 := blk_frozen BK172.out 0
    have hfz25_1 := blk_frozen BK172.out 1
    have hfz25_2 := blk_frozen BK172.out 2
    go_wp2
    refine bodyPost_ret (results_ct rfl _ _ gb172 28 #[.string (⟨#[]⟩ : ByteArray), .int .u64 0, .int .u64 0] (0, 0) _ rfl (by (with_reducible repeat (first | refine blk_drewN ?_ _ | refine blk_drew ?_ | refine blk_alloc ?_ _)); refine blk_put (cs := #[.string (⟨#[]⟩ : ByteArray), .int .u64 0, .int .u64 0]) ?_ 2 _ rfl; (with_reducible repeat (first | refine blk_drewN ?_ _ | refine blk_drew ?_ | refine blk_alloc ?_ _)); refine blk_put (cs := #[.string (⟨#[]⟩ : ByteArray), .int .u64 0, .int .u64 0]) ?_ 1 _ rfl; (with_reducible repeat (first | refine blk_drewN ?_ _ | refine blk_drew ?_ | refine blk_alloc ?_ _)); refine blk_put (cs := #[.string (⟨#[]⟩ : ByteArray), .int .u64 0, .int .u64 0]) ?_ 0 _ rfl; (with_reducible repeat (first | refine blk_drewN ?_ _ | refine blk_drew ?_ | refine blk_alloc ?_ _)); exact BK172.out) Tryd.underlying28 rfl (by kernel_rfl)) rfl ?_
    exact ⟨by first | rfl | (simp [errW_none, errW_some] <;> rfl) | (simp [*, errW_none, errW_some] <;> rfl), by repeat (first | (with_reducible first | exact HB.out | apply below_alloc | apply pw_below_drewN | apply below_drew1 | refine below_set ?_ GE170.out | refine below_set ?_ GE171.out | refine below_set ?_ GE172.out) | exact HB.out)⟩
   ·
    replace c22 := Bool.eq_false_iff.mpr c22
    subst c22
    have H1 : ((u128_Add.f a1_1 a1_2 a2_1 a2_2).bind fun bt175 => (if bt175.2.2 = 0 then ((tag_NodeText.f a1_0 a1_1 a1_2 a2_0 a2_1 a2_2).bind fun t179 => ((tag_Digest.f a0 t179).bind fun t180 => (some (t180, bt175.1, bt175.2.1, 0)))) else (some ((⟨#[]⟩ : ByteArray), 0, 0, 10)))) = some (r1, r2, r3, r4) := by rw [if_neg (show ¬ (false = true) by decide)] at H; exact H
    clear H
    have H := H1
    clear H1
    replace H := Option.bind_eq_some_iff.mp H
    obtain ⟨⟨t175, t176, t177⟩, A260, H⟩ := H
    replace H : (if t177 = 0 then ((tag_NodeText.f a1_0 a1_1 a1_2 a2_0 a2_1 a2_2).bind fun t179 => ((tag_Digest.f a0 t179).bind fun t180 => (some (t180, t175, t176, 0)))) else (some ((⟨#[]⟩ : ByteArray), 0, 0, 10))) = some (r1, r2, r3, r4) := H
    have A26 := aM' A260
    clear A260
    by_cases c27 : t177 = 0
    ·
     rw [if_pos c27] at H
     have c27b0 : (t177 == 0) = true := beq_iff_eq.mpr c27
     have c27b1 : (t177 != 0) = false := bne_eq_false_iff_eq.mpr c27
     clear c27
     replace H := Option.bind_eq_some_iff.mp H
     obtain ⟨t179, A280, H⟩ := H
     replace H : ((tag_Digest.f a0 t179).bind fun t180 => (some (t180, t175, t176, 0))) = some (r1, r2, r3, r4) := H
     have A28 := aM' A280
     clear A280
     replace H := Option.bind_eq_some_iff.mp H
     obtain ⟨t180, A290, H⟩ := H
     replace H : (some (t180, t175, t176, 0)) = some (r1, r2, r3, r4) := H
     have A29 := aM' A290
     clear A290
     simp only [Option.some.injEq, Prod.mk.injEq] at H
     obtain ⟨rfl, rfl, rfl, rfl⟩ := H
     have hnb30 := NB170_171.out
     have hnc30 := NB171_170.out
     have hnb31 := NB170_172.out
     have hnc31 := NB172_170.out
     have hcz32_0 : wc.cell? ⟨gb170, 0, none⟩ = some (.string a1_0) := (blk_cell BK170.out 0).trans rfl
     have hcz32_1 : wc.cell? ⟨gb170, 1, none⟩ = some (.int .u64 a1_1) := (blk_cell BK170.out 1).trans rfl
     have hcz32_2 : wc.cell? ⟨gb170, 2, none⟩ = some (.int .u64 a1_2) := (blk_cell BK170.out 2).trans rfl
     have hfz32_0 := blk_frozen BK170.out 0
     have hfz32_1 := blk_frozen BK170.out 1
     have hfz32_2 := blk_frozen BK170.out 2
     have hnb33 := NB171_172.out
     have hnc33 := NB172_171.out
     have hcz34_0 : wc.cell? ⟨gb171, 0, none⟩ = some (.string a2_0) := (blk_cell BK171.out 0).trans rfl
     have hcz34_1 : wc.cell? ⟨gb171, 1, none⟩ = some (.int .u64 a2_1) := (blk_cell BK171.out 1).trans rfl
     have hcz34_2 : wc.cell? ⟨gb171, 2, none⟩ = some (.int .u64 a2_2) := (blk_cell BK171.out 2).trans rfl
     have hfz34_0 := blk_frozen BK171.out 0
     have hfz34_1 := blk_frozen BK171.out 1
     have hfz34_2 := blk_frozen BK171.out 2
     try go_wp2_with (first | ((with_reducible refine gate_callee (f := 61) rfl ?_); refine goesL_ (some 26) rfl rfl Tryd.func61 (by kernel_rfl) rfl #[.agg #[.int .u64 a1_1, .int .u64 a1_2], .agg #[.int .u64 a2_1, .int .u64 a2_2]] rfl (by (try simp only [List.map_toArray, List.map_cons, List.map_nil]); first | done | rfl | (simp only [List.length_drop, List.length_take]; rfl)) ?_; (with_reducible refine (u128_Add.calls a1_1 a1_2 a2_1 a2_2 t175 t176 t177 _ A26.out).mono ?_); rintro e w35 ⟨rfl, hb⟩; refine ⟨_, rfl, ?_⟩; have n0_ := aM' (blk_below (g := gb170) (o := .cells #[.string a1_0, .int .u64 a1_1, .int .u64 a1_2] 28 (0, 0)) (by (with_reducible repeat (first | refine blk_drewN ?_ _ | refine blk_drew ?_ | refine blk_alloc ?_ _)); exact BK170.out) hb); have n1_ := aM' (blk_below (g := gb171) (o := .cells #[.string a2_0, .int .u64 a2_1, .int .u64 a2_2] 28 (0, 0)) (by (with_reducible repeat (first | refine blk_drewN ?_ _ | refine blk_drew ?_ | refine blk_alloc ?_ _)); exact BK171.out) hb); have n2_ := aM' (blk_below (g := gb172) (o := .cells #[.string (⟨#[]⟩ : ByteArray), .int .u64 0, .int .u64 0] 28 (0, 0)) (by (with_reducible repeat (first | refine blk_drewN ?_ _ | refine blk_drew ?_ | refine blk_alloc ?_ _)); exact BK172.out) hb); have n3_ := aM' (below_step (by repeat (first | (with_reducible first | exact HB.out | apply below_alloc | apply pw_below_drewN | apply below_drew1 | refine below_set ?_ GE170.out | refine below_set ?_ GE171.out | refine below_set ?_ GE172.out) | exact HB.out)) hb); clear BK170; clear BK171; clear BK172; clear HB; have BK170 := n0_; have BK171 := n1_; have BK172 := n2_; have HB := n3_; clear n0_ n1_ n2_ n3_; (try clear hb); (try clear hb2); (try clear hk); (try clear hi)) | ((with_reducible refine gate_dst (N := 8) rfl ?_); refine box_event ?hg (N := 8) ?hd (cs := #[.int .u64 0, .int .u64 0]) (t := 26) ?hr ?_; (case hd => rfl); (case hg => rfl); (case hr => first | (go_simp; done) | (go_simp; rfl)); intro gb178 hg w36 hbox hb; have n0_ := aM' (blk_below (g := gb170) (o := .cells #[.string a1_0, .int .u64 a1_1, .int .u64 a1_2] 28 (0, 0)) (by (with_reducible repeat (first | refine blk_drewN ?_ _ | refine blk_drew ?_ | refine blk_alloc ?_ _)); exact BK170.out) hb); have n1_ := aM' (blk_below (g := gb171) (o := .cells #[.string a2_0, .int .u64 a2_1, .int .u64 a2_2] 28 (0, 0)) (by (with_reducible repeat (first | refine blk_drewN ?_ _ | refine blk_drew ?_ | refine blk_alloc ?_ _)); exact BK171.out) hb); have n2_ := aM' (blk_below (g := gb172) (o := .cells #[.string (⟨#[]⟩ : ByteArray), .int .u64 0, .int .u64 0] 28 (0, 0)) (by (with_reducible repeat (first | refine blk_drewN ?_ _ | refine blk_drew ?_ | refine blk_alloc ?_ _)); exact BK172.out) hb); have n3_ := aM' (below_step (by repeat (first | (with_reducible first | exact HB.out | apply below_alloc | apply pw_below_drewN | apply below_drew1 | refine below_set ?_ GE170.out | refine below_set ?_ GE171.out | refine below_set ?_ GE172.out) | exact HB.out)) hb); have n4_ := aM' (hbox); have n5_ := aM' ((by rw [hg]; exact (below_size (by repeat (first | (with_reducible first | exact HB.out | apply below_alloc | apply pw_below_drewN | apply below_drew1 | refine below_set ?_ GE170.out | refine below_set ?_ GE171.out | refine below_set ?_ GE172.out) | exact HB.out))) : w.heap.size ≤ gb178)); have n6_ := aM' ((by rw [hg]; exact (below_size (by repeat (first | (with_reducible first | exact HB.out | apply below_alloc | apply pw_below_drewN | apply below_drew1 | refine below_set ?_ GE170.out | refine below_set ?_ GE171.out | refine below_set ?_ GE172.out) | exact HB.out))) : w.heap.size ≤ gb178)); have n7_ := aM' ((by rw [hg]; exact Nat.ne_of_lt (blk_lt (g := gb170) (o := .cells #[.string a1_0, .int .u64 a1_1, .int .u64 a1_2] 28 (0, 0)) (by (with_reducible repeat (first | refine blk_drewN ?_ _ | refine blk_drew ?_ | refine blk_alloc ?_ _)); exact BK170.out)) : gb170 ≠ gb178)); have n8_ := aM' ((by rw [hg]; exact Nat.ne_of_gt (blk_lt (g := gb170) (o := .cells #[.string a1_0, .int .u64 a1_1, .int .u64 a1_2] 28 (0, 0)) (by (with_reducible repeat (first | refine blk_drewN ?_ _ | refine blk_drew ?_ | refine blk_alloc ?_ _)); exact BK170.out)) : gb178 ≠ gb170)); have n9_ := aM' ((by rw [hg]; exact Nat.ne_of_lt (blk_lt (g := gb171) (o := .cells #[.string a2_0, .int .u64 a2_1, .int .u64 a2_2] 28 (0, 0)) (by (with_reducible repeat (first | refine blk_drewN ?_ _ | refine blk_drew ?_ | refine blk_alloc ?_ _)); exact BK171.out)) : gb171 ≠ gb178)); have n10_ := aM' ((by rw [hg]; exact Nat.ne_of_gt (blk_lt (g := gb171) (o := .cells #[.string a2_0, .int .u64 a2_1, .int .u64 a2_2] 28 (0, 0)) (by (with_reducible repeat (first | refine blk_drewN ?_ _ | refine blk_drew ?_ | refine blk_alloc ?_ _)); exact BK171.out)) : gb178 ≠ gb171)); have n11_ := aM' ((by rw [hg]; exact Nat.ne_of_lt (blk_lt (g := gb172) (o := .cells #[.string (⟨#[]⟩ : ByteArray), .int .u64 0, .int .u64 0] 28 (0, 0)) (by (with_reducible repeat (first | refine blk_drewN ?_ _ | refine blk_drew ?_ | refine blk_alloc ?_ _)); exact BK172.out)) : gb172 ≠ gb178)); have n12_ := aM' ((by rw [hg]; exact Nat.ne_of_gt (blk_lt (g := gb172) (o := .cells #[.string (⟨#[]⟩ : ByteArray), .int .u64 0, .int .u64 0] 28 (0, 0)) (by (with_reducible repeat (first | refine blk_drewN ?_ _ | refine blk_drew ?_ | refine blk_alloc ?_ _)); exact BK172.out)) : gb178 ≠ gb172)); clear BK170; clear BK171; clear BK172; clear HB; have BK170 := n0_; have BK171 := n1_; have BK172 := n2_; have HB := n3_; have BK178 := n4_; have GW178 := n5_; have GE178 := n6_; have NB170_178 := n7_; have NB178_170 := n8_; have NB171_178 := n9_; have NB178_171 := n10_; have NB172_178 := n11_; have NB178_172 := n12_; clear n0_ n1_ n2_ n3_ n4_ n5_ n6_ n7_ n8_ n9_ n10_ n11_ n12_; clear hb hbox hg; have hnb37 := NB178_170.out; have hnc37 := NB170_178.out; have hnb38 := NB178_171.out; have hnc38 := NB171_178.out; have hnb39 := NB178_172.out; have hnc39 := NB172_178.out; have hcz40_0 : w36.cell? ⟨gb178, 0, none⟩ = some (.int .u64 0) := (blk_cell BK178.out 0).trans rfl; have hcz40_1 : w36.cell? ⟨gb178, 1, none⟩ = some (.int .u64 0) := (blk_cell BK178.out 1).trans rfl; have hfz40_0 := blk_frozen BK178.out 0; have hfz40_1 := blk_frozen BK178.out 1))
     have n0_ : Aside0 (((w36.setCell ⟨gb178, 0, none⟩ (.int .u64 t175)).setCell ⟨gb178, 1, none⟩ (.int .u64 t176)).heap[gb170]? = some (.cells #[.string a1_0, .int .u64 a1_1, .int .u64 a1_2] 28 (0, 0))) := ⟨by (with_reducible repeat (first | refine blk_drewN ?_ _ | refine blk_drew ?_ | refine blk_alloc ?_ _)); refine blk_far ?_ NB170_178.out _; (with_reducible repeat (first | refine blk_drewN ?_ _ | refine blk_drew ?_ | refine blk_alloc ?_ _)); refine blk_far ?_ NB170_178.out _; (with_reducible repeat (first | refine blk_drewN ?_ _ | refine blk_drew ?_ | refine blk_alloc ?_ _)); exact BK170.out⟩
     have n1_ : Aside0 (((w36.setCell ⟨gb178, 0, none⟩ (.int .u64 t175)).setCell ⟨gb178, 1, none⟩ (.int .u64 t176)).heap[gb171]? = some (.cells #[.string a2_0, .int .u64 a2_1, .int .u64 a2_2] 28 (0, 0))) := ⟨by (with_reducible repeat (first | refine blk_drewN ?_ _ | refine blk_drew ?_ | refine blk_alloc ?_ _)); refine blk_far ?_ NB171_178.out _; (with_reducible repeat (first | refine blk_drewN ?_ _ | refine blk_drew ?_ | refine blk_alloc ?_ _)); refine blk_far ?_ NB171_178.out _; (with_reducible repeat (first | refine blk_drewN ?_ _ | refine blk_drew ?_ | refine blk_alloc ?_ _)); exact BK171.out⟩
     have n2_ : Aside0 (((w36.setCell ⟨gb178, 0, none⟩ (.int .u64 t175)).setCell ⟨gb178, 1, none⟩ (.int .u64 t176)).heap[gb172]? = some (.cells #[.string (⟨#[]⟩ : ByteArray), .int .u64 0, .int .u64 0] 28 (0, 0))) := ⟨by (with_reducible repeat (first | refine blk_drewN ?_ _ | refine blk_drew ?_ | refine blk_alloc ?_ _)); refine blk_far ?_ NB172_178.out _; (with_reducible repeat (first | refine blk_drewN ?_ _ | refine blk_drew ?_ | refine blk_alloc ?_ _)); refine blk_far ?_ NB172_178.out _; (with_reducible repeat (first | refine blk_drewN ?_ _ | refine blk_drew ?_ | refine blk_alloc ?_ _)); exact BK172.out⟩
     have n3_ : Aside0 (((w36.setCell ⟨gb178, 0, none⟩ (.int .u64 t175)).setCell ⟨gb178, 1, none⟩ (.int .u64 t176)).heap[gb178]? = some (.cells #[.int .u64 t175, .int .u64 t176] 26 (0, 0))) := ⟨by (with_reducible repeat (first | refine blk_drewN ?_ _ | refine blk_drew ?_ | refine blk_alloc ?_ _)); refine blk_put (cs := #[.int .u64 t175, .int .u64 0]) ?_ 1 _ rfl; (with_reducible repeat (first | refine blk_drewN ?_ _ | refine blk_drew ?_ | refine blk_alloc ?_ _)); refine blk_put (cs := #[.int .u64 0, .int .u64 0]) ?_ 0 _ rfl; (with_reducible repeat (first | refine blk_drewN ?_ _ | refine blk_drew ?_ | refine blk_alloc ?_ _)); exact BK178.out⟩
     have n4_ : Aside0 (Below w.heap.size w ((w36.setCell ⟨gb178, 0, none⟩ (.int .u64 t175)).setCell ⟨gb178, 1, none⟩ (.int .u64 t176))) := ⟨by repeat (first | (with_reducible first | exact HB.out | apply below_alloc | apply pw_below_drewN | apply below_drew1 | refine below_set ?_ GE170.out | refine below_set ?_ GE171.out | refine below_set ?_ GE172.out | refine below_set ?_ GE178.out) | exact HB.out)⟩
     (try clear BK170)
     (try clear BK171)
     (try clear BK172)
     (try clear BK178)
     (try clear HB)
     generalize ((w36.setCell ⟨gb178, 0, none⟩ (.int .u64 t175)).setCell ⟨gb178, 1, none⟩ (.int .u64 t176)) = w41 at n0_ n1_ n2_ n3_ n4_ ⊢
     have BK170 := n0_
     have BK171 := n1_
     have BK172 := n2_
     have BK178 := n3_
     have HB := n4_
     clear n0_ n1_ n2_ n3_ n4_
     have n0_ := aM' (blk_drew BK170.out)
     have n1_ := aM' (blk_drew BK171.out)
     have n2_ := aM' (blk_drew BK172.out)
     have n3_ := aM' (blk_drew BK178.out)
     have n4_ := aM' (below_drew1 HB.out)
     clear BK170
     clear BK171
     clear BK172
     clear BK178
     clear HB
     have BK170 := n0_
     have BK171 := n1_
     have BK172 := n2_
     have BK178 := n3_
     have HB := n4_
     clear n0_ n1_ n2_ n3_ n4_
     refine start_ (n := 9) (S := fun w' => w'.cell? ⟨gb170, 0, none⟩ = some (.string a1_0) ∧ w'.cell? ⟨gb170, 1, none⟩ = some (.int .u64 a1_1) ∧ w'.cell? ⟨gb170, 2, none⟩ = some (.int .u64 a1_2) ∧ w'.cell? ⟨gb171, 0, none⟩ = some (.string a2_0) ∧ w'.cell? ⟨gb171, 1, none⟩ = some (.int .u64 a2_1) ∧ w'.cell? ⟨gb171, 2, none⟩ = some (.int .u64 a2_2) ∧ w'.cell? ⟨gb178, 0, none⟩ = some (.int .u64 t175) ∧ w'.cell? ⟨gb178, 1, none⟩ = some (.int .u64 t176)) (ds := []) #[false, false, false, false, false, false, false, false, false] (by kernel_rfl) rfl rfl ⟨(blk_cell BK170.out 0).trans rfl, (blk_cell BK170.out 1).trans rfl, (blk_cell BK170.out 2).trans rfl, (blk_cell BK171.out 0).trans rfl, (blk_cell BK171.out 1).trans rfl, (blk_cell BK171.out 2).trans rfl, (blk_cell BK178.out 0).trans rfl, (blk_cell BK178.out 1).trans rfl⟩ (fun hHeld => ?_); refine with_tabW node_Join.tab6 node_Join.bits6 (fun HT_ HW_ => ?_)
     generalize w41.drew = w42 at BK170 BK171 BK172 BK178 HB hHeld ⊢
     refine pure_ (i := 0) (N := some 32) (v := ?_) (a' := ?_) #[true, false, false, false, false, false, false, false, false] rfl rfl (any_of HT_.out (by kernel_rfl)) (fun _ _ _ h => h) (Or.inl ⟨by rfl, ?_⟩) ?_ ?_
     rotate_left
     ·
      intro w'
      go_simp
      with_reducible rfl
     rotate_left
     ·
      simp only [Act.put, List.setIfInBounds_toArray, List.set_cons_zero, List.set_cons_succ, i64_w, i32_w]
      rfl
     refine take_ (i := 1) (N := some 33) (v := ?_) (a' := ?_) #[true, true, false, false, false, false, false, false, false] rfl rfl (take_ofW HT_.out HW_.out (by kernel_rfl)) (fun _ _ _ h => h) (Or.inl ⟨by rfl, ?_⟩) hHeld ?_ ?_
     rotate_left
     ·
      rintro w' ⟨s0, s1, s2, s3, s4, s5, s6, s7⟩
      go_simp
      with_reducible rfl
     rotate_left
     ·
      simp only [Act.put, List.setIfInBounds_toArray, List.set_cons_zero, List.set_cons_succ, i64_w, i32_w]
      rfl
     refine take_ (i := 2) (N := some 34) (v := ?_) (a' := ?_) #[true, true, true, false, false, false, false, false, false] rfl rfl (take_ofW HT_.out HW_.out (by kernel_rfl)) (fun _ _ _ h => h) (Or.inl ⟨by rfl, ?_⟩) hHeld ?_ ?_
     rotate_left
     ·
      rintro w' ⟨s0, s1, s2, s3, s4, s5, s6, s7⟩
      go_simp
      with_reducible rfl
     rotate_left
     ·
      simp only [Act.put, List.setIfInBounds_toArray, List.set_cons_zero, List.set_cons_succ, i64_w, i32_w]
      rfl
     refine take_ (i := 5) (N := some 37) (v := ?_) (a' := ?_) #[true, true, true, false, false, true, false, false, false] rfl rfl (take_ofW HT_.out HW_.out (by kernel_rfl)) (fun _ _ _ h => h) (Or.inl ⟨by rfl, ?_⟩) hHeld ?_ ?_
     rotate_left
     ·
      rintro w' ⟨s0, s1, s2, s3, s4, s5, s6, s7⟩
      go_simp
      with_reducible rfl
     rotate_left
     ·
      simp only [Act.put, List.setIfInBounds_toArray, List.set_cons_zero, List.set_cons_succ, i64_w, i32_w]
      rfl
     refine one_ (i := 3) (N := some 35) #[true, true, true, true, false, true, false, false, false] rfl rfl (one_of HT_.out (by kernel_rfl)) (by decide) (fun K hK => ?_)
     refine goes_ Tryd.func64 (by kernel_rfl) rfl #[.agg #[.string a1_0, .int .u64 a1_1, .int .u64 a1_2], .agg #[.string a2_0, .int .u64 a2_1, .int .u64 a2_2]] (by rfl) rfl rfl (by (try simp only [List.map_toArray, List.map_cons, List.map_nil]); first | done | rfl | (simp only [List.length_drop, List.length_take]; rfl)) ?_
     with_reducible refine (tag_NodeText.calls a1_0 a1_1 a1_2 a2_0 a2_1 a2_2 t179 _ A28.out).mono ?_
     rintro e w43 ⟨rfl, hb⟩
     refine ⟨_, rfl, ?_⟩
     have n0_ := aM' (blk_below (g := gb170) (o := .cells #[.string a1_0, .int .u64 a1_1, .int .u64 a1_2] 28 (0, 0)) (by (with_reducible repeat (first | refine blk_drewN ?_ _ | refine blk_drew ?_ | refine blk_alloc ?_ _)); exact BK170.out) hb)
     have n1_ := aM' (blk_below (g := gb171) (o := .cells #[.string a2_0, .int .u64 a2_1, .int .u64 a2_2] 28 (0, 0)) (by (with_reducible repeat (first | refine blk_drewN ?_ _ | refine blk_drew ?_ | refine blk_alloc ?_ _)); exact BK171.out) hb)
     have n2_ := aM' (blk_below (g := gb172) (o := .cells #[.string (⟨#[]⟩ : ByteArray), .int .u64 0, .int .u64 0] 28 (0, 0)) (by (with_reducible repeat (first | refine blk_drewN ?_ _ | refine blk_drew ?_ | refine blk_alloc ?_ _)); exact BK172.out) hb)
     have n3_ := aM' (blk_below (g := gb178) (o := .cells #[.int .u64 t175, .int .u64 t176] 26 (0, 0)) (by (with_reducible repeat (first | refine blk_drewN ?_ _ | refine blk_drew ?_ | refine blk_alloc ?_ _)); exact BK178.out) hb)
     have n4_ := aM' (below_step (by repeat (first | (with_reducible first | exact HB.out | apply below_alloc | apply pw_below_drewN | apply below_drew1 | refine below_set ?_ GE170.out | refine below_set ?_ GE171.out | refine below_set ?_ GE172.out | refine below_set ?_ GE178.out) | exact HB.out)) hb)
     clear BK170
     clear BK171
     clear BK172
     clear BK178
     clear HB
     have BK170 := n0_
     have BK171 := n1_
     have BK172 := n2_
     have BK178 := n3_
     have HB := n4_
     clear n0_ n1_ n2_ n3_ n4_
     (try clear hb)
     (try clear hb2)
     (try clear hk)
     (try clear hi)
     refine hK.out _ _ ⟨(blk_cell BK170.out 0).trans rfl, (blk_cell BK170.out 1).trans rfl, (blk_cell BK170.out 2).trans rfl, (blk_cell BK171.out 0).trans rfl, (blk_cell BK171.out 1).trans rfl, (blk_cell BK171.out 2).trans rfl, (blk_cell BK178.out 0).trans rfl, (blk_cell BK178.out 1).trans rfl⟩ (fun hHeld => ?_)
     clear hK K
     refine norm_ (a' := ?_) ?_ ?_
     rotate_left
     ·
      show Act.put _ (some 35) _ = _
      simp only [Act.put, List.setIfInBounds_toArray, List.set_cons_zero, List.set_cons_succ, i64_w, i32_w]
      rfl
     refine one_ (i := 4) (N := some 36) #[true, true, true, true, true, true, false, false, false] rfl rfl (one_of HT_.out (by kernel_rfl)) (by decide) (fun K hK => ?_)
     refine goes_ Tryd.func63 (by kernel_rfl) rfl #[.int .i64 a0, .string t179] (by rfl) rfl rfl (by (try simp only [List.map_toArray, List.map_cons, List.map_nil]); first | done | rfl | (simp only [List.length_drop, List.length_take]; rfl)) ?_
     with_reducible refine (tag_Digest.calls a0 t179 t180 _ ?side1 A29.out).mono ?_
     (case side1 => exact Laid.below HLD.out (by repeat (first | (with_reducible first | exact HB.out | apply below_alloc | apply pw_below_drewN | apply below_drew1 | refine below_set ?_ GE170.out | refine below_set ?_ GE171.out | refine below_set ?_ GE172.out | refine below_set ?_ GE178.out) | exact HB.out)))
     rintro e w44 ⟨rfl, hb⟩
     refine ⟨_, rfl, ?_⟩
     have n0_ := aM' (blk_below (g := gb170) (o := .cells #[.string a1_0, .int .u64 a1_1, .int .u64 a1_2] 28 (0, 0)) (by (with_reducible repeat (first | refine blk_drewN ?_ _ | refine blk_drew ?_ | refine blk_alloc ?_ _)); exact BK170.out) hb)
     have n1_ := aM' (blk_below (g := gb171) (o := .cells #[.string a2_0, .int .u64 a2_1, .int .u64 a2_2] 28 (0, 0)) (by (with_reducible repeat (first | refine blk_drewN ?_ _ | refine blk_drew ?_ | refine blk_alloc ?_ _)); exact BK171.out) hb)
     have n2_ := aM' (blk_below (g := gb172) (o := .cells #[.string (⟨#[]⟩ : ByteArray), .int .u64 0, .int .u64 0] 28 (0, 0)) (by (with_reducible repeat (first | refine blk_drewN ?_ _ | refine blk_drew ?_ | refine blk_alloc ?_ _)); exact BK172.out) hb)
     have n3_ := aM' (blk_below (g := gb178) (o := .cells #[.int .u64 t175, .int .u64 t176] 26 (0, 0)) (by (with_reducible repeat (first | refine blk_drewN ?_ _ | refine blk_drew ?_ | refine blk_alloc ?_ _)); exact BK178.out) hb)
     have n4_ := aM' (below_step (by repeat (first | (with_reducible first | exact HB.out | apply below_alloc | apply pw_below_drewN | apply below_drew1 | refine below_set ?_ GE170.out | refine below_set ?_ GE171.out | refine below_set ?_ GE172.out | refine below_set ?_ GE178.out) | exact HB.out)) hb)
     clear BK170
     clear BK171
     clear BK172
     clear BK178
     clear HB
     have BK170 := n0_
     have BK171 := n1_
     have BK172 := n2_
     have BK178 := n3_
     have HB := n4_
     clear n0_ n1_ n2_ n3_ n4_
     (try clear hb)
     (try clear hb2)
     (try clear hk)
     (try clear hi)
     refine hK.out _ _ ⟨(blk_cell BK170.out 0).trans rfl, (blk_cell BK170.out 1).trans rfl, (blk_cell BK170.out 2).trans rfl, (blk_cell BK171.out 0).trans rfl, (blk_cell BK171.out 1).trans rfl, (blk_cell BK171.out 2).trans rfl, (blk_cell BK178.out 0).trans rfl, (blk_cell BK178.out 1).trans rfl⟩ (fun hHeld => ?_)
     clear hK K
     refine norm_ (a' := ?_) ?_ ?_
     rotate_left
     ·
      show Act.put _ (some 36) _ = _
      simp only [Act.put, List.setIfInBounds_toArray, List.set_cons_zero, List.set_cons_succ, i64_w, i32_w]
      rfl
     refine pure_ (i := 6) (N := some 38) (v := ?_) (a' := ?_) #[true, true, true, true, true, true, true, false, false] rfl rfl (any_of HT_.out (by kernel_rfl)) (fun _ _ _ h => h) (Or.inl ⟨by rfl, ?_⟩) ?_ ?_
     rotate_left
     ·
      intro w'
      go_simp
      with_reducible rfl
     rotate_left
     ·
      simp only [Act.put, List.setIfInBounds_toArray, List.set_cons_zero, List.set_cons_succ, i64_w, i32_w]
      rfl
     refine one_ (i := 7) (N := none) #[true, true, true, true, true, true, true, true, false] rfl rfl (one_of HT_.out (by kernel_rfl)) (by decide) (fun K hK => ?_)
     have hs45 : w44.cell? ⟨gb172, 0, none⟩ = some (.string (⟨#[]⟩ : ByteArray)) := (blk_cell BK172.out 0).trans rfl
     have hfs45 := blk_frozen BK172.out 0
     have hns45_0 := NB170_172.out
     have hns45_1 := NB171_172.out
     have hns45_3 := NB178_172.out
     have hms45_0 := NB172_170.out
     have hms45_1 := NB172_171.out
     have hms45_3 := NB172_178.out
     have hs46 : w44.cell? ⟨gb172, 1, none⟩ = some (.int .u64 0) := (blk_cell BK172.out 1).trans rfl
     have hfs46 := blk_frozen BK172.out 1
     have hns46_0 := NB170_172.out
     have hns46_1 := NB171_172.out
     have hns46_3 := NB178_172.out
     have hms46_0 := NB172_170.out
     have hms46_1 := NB172_171.out
     have hms46_3 := NB172_178.out
     have hs47 : w44.cell? ⟨gb172, 2, none⟩ = some (.int .u64 0) := (blk_cell BK172.out 2).trans rfl
     have hfs47 := blk_frozen BK172.out 2
     have hns47_0 := NB170_172.out
     have hns47_1 := NB171_172.out
     have hns47_3 := NB178_172.out
     have hms47_0 := NB172_170.out
     have hms47_1 := NB172_171.out
     have hms47_3 := NB172_178.out
     refine skip_ (w1 := ?_) (by rfl) rfl ?_ ?_
     rotate_left
     ·
      go_simp
      rfl
     refine hK.out _ _ ⟨((cell_far (p := ⟨gb172, _, none⟩) NB170_172.out _).trans (((cell_far (p := ⟨gb172, _, none⟩) NB170_172.out _).trans (((cell_far (p := ⟨gb172, _, none⟩) NB170_172.out _).trans (hHeld.1)))))), ((cell_far (p := ⟨gb172, _, none⟩) NB170_172.out _).trans (((cell_far (p := ⟨gb172, _, none⟩) NB170_172.out _).trans (((cell_far (p := ⟨gb172, _, none⟩) NB170_172.out _).trans (hHeld.2.1)))))), ((cell_far (p := ⟨gb172, _, none⟩) NB170_172.out _).trans (((cell_far (p := ⟨gb172, _, none⟩) NB170_172.out _).trans (((cell_far (p := ⟨gb172, _, none⟩) NB170_172.out _).trans (hHeld.2.2.1)))))), ((cell_far (p := ⟨gb172, _, none⟩) NB171_172.out _).trans (((cell_far (p := ⟨gb172, _, none⟩) NB171_172.out _).trans (((cell_far (p := ⟨gb172, _, none⟩) NB171_172.out _).trans (hHeld.2.2.2.1)))))), ((cell_far (p := ⟨gb172, _, none⟩) NB171_172.out _).trans (((cell_far (p := ⟨gb172, _, none⟩) NB171_172.out _).trans (((cell_far (p := ⟨gb172, _, none⟩) NB171_172.out _).trans (hHeld.2.2.2.2.1)))))), ((cell_far (p := ⟨gb172, _, none⟩) NB171_172.out _).trans (((cell_far (p := ⟨gb172, _, none⟩) NB171_172.out _).trans (((cell_far (p := ⟨gb172, _, none⟩) NB171_172.out _).trans (hHeld.2.2.2.2.2.1)))))), ((cell_far (p := ⟨gb172, _, none⟩) NB178_172.out _).trans (((cell_far (p := ⟨gb172, _, none⟩) NB178_172.out _).trans (((cell_far (p := ⟨gb172, _, none⟩) NB178_172.out _).trans (hHeld.2.2.2.2.2.2.1)))))), ((cell_far (p := ⟨gb172, _, none⟩) NB178_172.out _).trans (((cell_far (p := ⟨gb172, _, none⟩) NB178_172.out _).trans (((cell_far (p := ⟨gb172, _, none⟩) NB178_172.out _).trans (hHeld.2.2.2.2.2.2.2))))))⟩ (fun hHeld => ?_)
     clear hK K
     refine pure_ (i := 8) (N := some 7) (v := ?_) (a' := ?_) #[true, true, true, true, true, true, true, true, true] rfl rfl (any_of HT_.out (by kernel_rfl)) (fun _ _ _ h => h) (Or.inl ⟨by rfl, ?_⟩) ?_ ?_
     rotate_left
     ·
      intro w'
      go_simp
      with_reducible rfl
     rotate_left
     ·
      simp only [Act.put, List.setIfInBounds_toArray, List.set_cons_zero, List.set_cons_succ, i64_w, i32_w]
      rfl
     refine done_ (done_of HT_.out (by kernel_rfl)) ?_
     try go_wp2
     refine bodyPost_ret (results_ct rfl _ _ gb172 28 #[.string t180, .int .u64 t175, .int .u64 t176] (0, 0) _ rfl (by (with_reducible repeat (first | refine blk_drewN ?_ _ | refine blk_drew ?_ | refine blk_alloc ?_ _)); refine blk_put (cs := #[.string t180, .int .u64 t175, .int .u64 0]) ?_ 2 _ rfl; (with_reducible repeat (first | refine blk_drewN ?_ _ | refine blk_drew ?_ | refine blk_alloc ?_ _)); refine blk_put (cs := #[.string t180, .int .u64 0, .int .u64 0]) ?_ 1 _ rfl; (with_reducible repeat (first | refine blk_drewN ?_ _ | refine blk_drew ?_ | refine blk_alloc ?_ _)); refine blk_put (cs := #[.string (⟨#[]⟩ : ByteArray), .int .u64 0, .int .u64 0]) ?_ 0 _ rfl; (with_reducible repeat (first | refine blk_drewN ?_ _ | refine blk_drew ?_ | refine blk_alloc ?_ _)); exact BK172.out) Tryd.underlying28 rfl (by kernel_rfl)) rfl ?_
     exact ⟨by first | rfl | (simp [errW_none, errW_some] <;> rfl) | (simp [*, errW_none, errW_some] <;> rfl), by repeat (first | (with_reducible first | exact HB.out | apply below_alloc | apply pw_below_drewN | apply below_drew1 | refine below_set ?_ GE170.out | refine below_set ?_ GE171.out | refine below_set ?_ GE172.out | refine below_set ?_ GE178.out) | exact HB.out)⟩
    ·
     rw [if_neg c27] at H
     have c27b0 : (t177 == 0) = false := beq_eq_false_iff_ne.mpr c27
     have c27b1 : (t177 != 0) = true := bne_iff_ne.mpr c27
     simp only [Option.some.injEq, Prod.mk.injEq] at H
     obtain ⟨rfl, rfl, rfl, rfl⟩ := H
     have hnb48 := NB170_171.out
     have hnc48 := NB171_170.out
     have hnb49 := NB170_172.out
     have hnc49 := NB172_170.out
     have hcz50_0 : wc.cell? ⟨gb170, 0, none⟩ = some (.string a1_0) := (blk_cell BK170.out 0).trans rfl
     have hcz50_1 : wc.cell? ⟨gb170, 1, none⟩ = some (.int .u64 a1_1) := (blk_cell BK170.out 1).trans rfl
     have hcz50_2 : wc.cell? ⟨gb170, 2, none⟩ = some (.int .u64 a1_2) := (blk_cell BK170.out 2).trans rfl
     have hfz50_0 := blk_frozen BK170.out 0
     have hfz50_1 := blk_frozen BK170.out 1
     have hfz50_2 := blk_frozen BK170.out 2
     have hnb51 := NB171_172.out
     have hnc51 := NB172_171.out
     have hcz52_0 : wc.cell? ⟨gb171, 0, none⟩ = some (.string a2_0) := (blk_cell BK171.out 0).trans rfl
     have hcz52_1 : wc.cell? ⟨gb171, 1, none⟩ = some (.int .u64 a2_1) := (blk_cell BK171.out 1).trans rfl
     have hcz52_2 : wc.cell? ⟨gb171, 2, none⟩ = some (.int .u64 a2_2) := (blk_cell BK171.out 2).trans rfl
     have hfz52_0 := blk_frozen BK171.out 0
     have hfz52_1 := blk_frozen BK171.out 1
     have hfz52_2 := blk_frozen BK171.out 2
     go_wp2_with (first | ((with_reducible refine gate_callee (f := 61) rfl ?_); refine goesL_ (some 26) rfl rfl Tryd.func61 (by kernel_rfl) rfl #[.agg #[.int .u64 a1_1, .int .u64 a1_2], .agg #[.int .u64 a2_1, .int .u64 a2_2]] rfl (by (try simp only [List.map_toArray, List.map_cons, List.map_nil]); first | done | rfl | (simp only [List.length_drop, List.length_take]; rfl)) ?_; (with_reducible refine (u128_Add.calls a1_1 a1_2 a2_1 a2_2 t175 t176 t177 _ A26.out).mono ?_); rintro e w53 ⟨rfl, hb⟩; refine ⟨_, rfl, ?_⟩; have n0_ := aM' (blk_below (g := gb170) (o := .cells #[.string a1_0, .int .u64 a1_1, .int .u64 a1_2] 28 (0, 0)) (by (with_reducible repeat (first | refine blk_drewN ?_ _ | refine blk_drew ?_ | refine blk_alloc ?_ _)); exact BK170.out) hb); have n1_ := aM' (blk_below (g := gb171) (o := .cells #[.string a2_0, .int .u64 a2_1, .int .u64 a2_2] 28 (0, 0)) (by (with_reducible repeat (first | refine blk_drewN ?_ _ | refine blk_drew ?_ | refine blk_alloc ?_ _)); exact BK171.out) hb); have n2_ := aM' (blk_below (g := gb172) (o := .cells #[.string (⟨#[]⟩ : ByteArray), .int .u64 0, .int .u64 0] 28 (0, 0)) (by (with_reducible repeat (first | refine blk_drewN ?_ _ | refine blk_drew ?_ | refine blk_alloc ?_ _)); exact BK172.out) hb); have n3_ := aM' (below_step (by repeat (first | (with_reducible first | exact HB.out | apply below_alloc | apply pw_below_drewN | apply below_drew1 | refine below_set ?_ GE170.out | refine below_set ?_ GE171.out | refine below_set ?_ GE172.out) | exact HB.out)) hb); clear BK170; clear BK171; clear BK172; clear HB; have BK170 := n0_; have BK171 := n1_; have BK172 := n2_; have HB := n3_; clear n0_ n1_ n2_ n3_; (try clear hb); (try clear hb2); (try clear hk); (try clear hi)) | ((with_reducible refine gate_dst (N := 8) rfl ?_); refine box_event ?hg (N := 8) ?hd (cs := #[.int .u64 0, .int .u64 0]) (t := 26) ?hr ?_; (case hd => rfl); (case hg => rfl); (case hr => first | (go_simp; done) | (go_simp; rfl)); intro gb178 hg w54 hbox hb; have n0_ := aM' (blk_below (g := gb170) (o := .cells #[.string a1_0, .int .u64 a1_1, .int .u64 a1_2] 28 (0, 0)) (by (with_reducible repeat (first | refine blk_drewN ?_ _ | refine blk_drew ?_ | refine blk_alloc ?_ _)); exact BK170.out) hb); have n1_ := aM' (blk_below (g := gb171) (o := .cells #[.string a2_0, .int .u64 a2_1, .int .u64 a2_2] 28 (0, 0)) (by (with_reducible repeat (first | refine blk_drewN ?_ _ | refine blk_drew ?_ | refine blk_alloc ?_ _)); exact BK171.out) hb); have n2_ := aM' (blk_below (g := gb172) (o := .cells #[.string (⟨#[]⟩ : ByteArray), .int .u64 0, .int .u64 0] 28 (0, 0)) (by (with_reducible repeat (first | refine blk_drewN ?_ _ | refine blk_drew ?_ | refine blk_alloc ?_ _)); exact BK172.out) hb); have n3_ := aM' (below_step (by repeat (first | (with_reducible first | exact HB.out | apply below_alloc | apply pw_below_drewN | apply below_drew1 | refine below_set ?_ GE170.out | refine below_set ?_ GE171.out | refine below_set ?_ GE172.out) | exact HB.out)) hb); have n4_ := aM' (hbox); have n5_ := aM' ((by rw [hg]; exact (below_size (by repeat (first | (with_reducible first | exact HB.out | apply below_alloc | apply pw_below_drewN | apply below_drew1 | refine below_set ?_ GE170.out | refine below_set ?_ GE171.out | refine below_set ?_ GE172.out) | exact HB.out))) : w.heap.size ≤ gb178)); have n6_ := aM' ((by rw [hg]; exact (below_size (by repeat (first | (with_reducible first | exact HB.out | apply below_alloc | apply pw_below_drewN | apply below_drew1 | refine below_set ?_ GE170.out | refine below_set ?_ GE171.out | refine below_set ?_ GE172.out) | exact HB.out))) : w.heap.size ≤ gb178)); have n7_ := aM' ((by rw [hg]; exact Nat.ne_of_lt (blk_lt (g := gb170) (o := .cells #[.string a1_0, .int .u64 a1_1, .int .u64 a1_2] 28 (0, 0)) (by (with_reducible repeat (first | refine blk_drewN ?_ _ | refine blk_drew ?_ | refine blk_alloc ?_ _)); exact BK170.out)) : gb170 ≠ gb178)); have n8_ := aM' ((by rw [hg]; exact Nat.ne_of_gt (blk_lt (g := gb170) (o := .cells #[.string a1_0, .int .u64 a1_1, .int .u64 a1_2] 28 (0, 0)) (by (with_reducible repeat (first | refine blk_drewN ?_ _ | refine blk_drew ?_ | refine blk_alloc ?_ _)); exact BK170.out)) : gb178 ≠ gb170)); have n9_ := aM' ((by rw [hg]; exact Nat.ne_of_lt (blk_lt (g := gb171) (o := .cells #[.string a2_0, .int .u64 a2_1, .int .u64 a2_2] 28 (0, 0)) (by (with_reducible repeat (first | refine blk_drewN ?_ _ | refine blk_drew ?_ | refine blk_alloc ?_ _)); exact BK171.out)) : gb171 ≠ gb178)); have n10_ := aM' ((by rw [hg]; exact Nat.ne_of_gt (blk_lt (g := gb171) (o := .cells #[.string a2_0, .int .u64 a2_1, .int .u64 a2_2] 28 (0, 0)) (by (with_reducible repeat (first | refine blk_drewN ?_ _ | refine blk_drew ?_ | refine blk_alloc ?_ _)); exact BK171.out)) : gb178 ≠ gb171)); have n11_ := aM' ((by rw [hg]; exact Nat.ne_of_lt (blk_lt (g := gb172) (o := .cells #[.string (⟨#[]⟩ : ByteArray), .int .u64 0, .int .u64 0] 28 (0, 0)) (by (with_reducible repeat (first | refine blk_drewN ?_ _ | refine blk_drew ?_ | refine blk_alloc ?_ _)); exact BK172.out)) : gb172 ≠ gb178)); have n12_ := aM' ((by rw [hg]; exact Nat.ne_of_gt (blk_lt (g := gb172) (o := .cells #[.string (⟨#[]⟩ : ByteArray), .int .u64 0, .int .u64 0] 28 (0, 0)) (by (with_reducible repeat (first | refine blk_drewN ?_ _ | refine blk_drew ?_ | refine blk_alloc ?_ _)); exact BK172.out)) : gb178 ≠ gb172)); clear BK170; clear BK171; clear BK172; clear HB; have BK170 := n0_; have BK171 := n1_; have BK172 := n2_; have HB := n3_; have BK178 := n4_; have GW178 := n5_; have GE178 := n6_; have NB170_178 := n7_; have NB178_170 := n8_; have NB171_178 := n9_; have NB178_171 := n10_; have NB172_178 := n11_; have NB178_172 := n12_; clear n0_ n1_ n2_ n3_ n4_ n5_ n6_ n7_ n8_ n9_ n10_ n11_ n12_; clear hb hbox hg; have hnb55 := NB178_170.out; have hnc55 := NB170_178.out; have hnb56 := NB178_171.out; have hnc56 := NB171_178.out; have hnb57 := NB178_172.out; have hnc57 := NB172_178.out; have hcz58_0 : w54.cell? ⟨gb178, 0, none⟩ = some (.int .u64 0) := (blk_cell BK178.out 0).trans rfl; have hcz58_1 : w54.cell? ⟨gb178, 1, none⟩ = some (.int .u64 0) := (blk_cell BK178.out 1).trans rfl; have hfz58_0 := blk_frozen BK178.out 0; have hfz58_1 := blk_frozen BK178.out 1; have hcz59_0 : w54.cell? ⟨gb172, 0, none⟩ = some (.string (⟨#[]⟩ : ByteArray)) := (blk_cell BK172.out 0).trans rfl; have hcz59_1 : w54.cell? ⟨gb172, 1, none⟩ = some (.int .u64 0) := (blk_cell BK172.out 1).trans rfl; have hcz59_2 : w54.cell? ⟨gb172, 2, none⟩ = some (.int .u64 0) := (blk_cell BK172.out 2).trans rfl; have hfz59_0 := blk_frozen BK172.out 0; have hfz59_1 := blk_frozen BK172.out 1; have hfz59_2 := blk_frozen BK172.out 2))
     refine bodyPost_ret (results_ct rfl _ _ gb172 28 #[.string (⟨#[]⟩ : ByteArray), .int .u64 0, .int .u64 0] (0, 0) _ rfl (by (with_reducible repeat (first | refine blk_drewN ?_ _ | refine blk_drew ?_ | refine blk_alloc ?_ _)); refine blk_put (cs := #[.string (⟨#[]⟩ : ByteArray), .int .u64 0, .int .u64 0]) ?_ 2 _ rfl; (with_reducible repeat (first | refine blk_drewN ?_ _ | refine blk_drew ?_ | refine blk_alloc ?_ _)); refine blk_put (cs := #[.string (⟨#[]⟩ : ByteArray), .int .u64 0, .int .u64 0]) ?_ 1 _ rfl; (with_reducible repeat (first | refine blk_drewN ?_ _ | refine blk_drew ?_ | refine blk_alloc ?_ _)); refine blk_put (cs := #[.string (⟨#[]⟩ : ByteArray), .int .u64 0, .int .u64 0]) ?_ 0 _ rfl; (with_reducible repeat (first | refine blk_drewN ?_ _ | refine blk_drew ?_ | refine blk_alloc ?_ _)); refine blk_far ?_ NB172_178.out _; (with_reducible repeat (first | refine blk_drewN ?_ _ | refine blk_drew ?_ | refine blk_alloc ?_ _)); refine blk_far ?_ NB172_178.out _; (with_reducible repeat (first | refine blk_drewN ?_ _ | refine blk_drew ?_ | refine blk_alloc ?_ _)); exact BK172.out) Tryd.underlying28 rfl (by kernel_rfl)) rfl ?_
     exact ⟨by first | rfl | (simp [errW_none, errW_some] <;> rfl) | (simp [*, errW_none, errW_some] <;> rfl), by repeat (first | (with_reducible first | exact HB.out | apply below_alloc | apply pw_below_drewN | apply below_drew1 | refine below_set ?_ GE170.out | refine below_set ?_ GE171.out | refine below_set ?_ GE172.out | refine below_set ?_ GE178.out) | exact HB.out)⟩
end Go.Proofs.YtijfifphcchbbaaDoor.P
namespace Go.Proofs.YtijfifphcchbbaaDoor.P
open Go.RowKit Go.Proofs.YtijfifphcchbbaaDoorW.PrintWords Go.Proofs.YtijfifphcchbbaaDoorW.PrintLast Go.Proofs.YtijfifphcchbbaaDoorW.PrintMore
set_option linter.unusedVariables false
set_option linter.unusedSimpArgs false
set_option linter.unnecessarySimpa false
theorem ext_ext (t : ByteArray) (a i j : Nat) (h : a + j ≤ t.size) : (t.extract a t.size).extract i j = t.extract (a + i) (a + j) := by
 rw [ByteArray.extract_extract]
 congr 1
 omega
theorem chainI_front (t : ByteArray) (s : S8) : ∀ n, 64 * (n + 1) ≤ t.size → chainI s t (n + 1) = chainI (nextI s (t.extract 0 64)) (t.extract 64 t.size) n
 | 0, h => rfl
 | n + 1, h => by
  rw [chainI, chainI_front t s n (by omega), chainI, ext_ext t 64 _ _ (by omega), show 64 + 64 * n = 64 * (n + 1) by omega, show 64 + (64 * n + 64) = 64 * (n + 1) + 64 by omega]
theorem eat_blksN : ∀ (n : Nat) (t : ByteArray), t.size / 64 = n → ∀ r : Run, (blksN n t).foldl eat r = ⟨chainI r.s t n, t.extract (64 * n) t.size, r.n⟩
 | 0, t, h, r => by
  simp only [blksN, List.foldl_cons, List.foldl_nil, eat, chainI]
  simp
 | n + 1, t, h, r => by
  have h64 : 64 * (n + 1) ≤ t.size := by omega
  have hs : (t.extract 64 t.size).size = t.size - 64 := by rw [ByteArray.size_extract]; omega
  rw [blksN, List.foldl_cons, eat_blksN n _ (by rw [hs]; omega)]
  simp only [eat, if_true]
  rw [chainI_front t r.s n h64, hs, ext_ext t 64 _ _ (by omega), show 64 + 64 * n = 64 * (n + 1) by omega, show 64 + (t.size - 64) = t.size by omega]
def ran (t : ByteArray) : Run := ⟨chainI firstI t (t.size / 64), t.extract (64 * (t.size / 64)) t.size, (t.size : Int)⟩
theorem chainI_append (s : S8) (t u : ByteArray) : ∀ n, 64 * n ≤ t.size → chainI s (t ++ u) n = chainI s t n
 | 0, _ => rfl
 | n + 1, h => by
  rw [chainI, chainI, chainI_append s t u n (by omega), ByteArray.extract_append]
  have : u.extract (64 * n - t.size) (64 * n + 64 - t.size) = ByteArray.empty := by
   rw [show 64 * n - t.size = 0 by omega, show 64 * n + 64 - t.size = 0 by omega]; simp
  rw [this, ByteArray.append_empty]
theorem chainI_plus (s : S8) (t : ByteArray) (a : Nat) : ∀ n, 64 * (a + n) ≤ t.size → chainI (chainI s t a) (t.extract (64 * a) t.size) n = chainI s t (a + n)
 | 0, _ => rfl
 | n + 1, h => by
  rw [chainI, chainI_plus s t a n (by omega), ← Nat.add_assoc, chainI, ext_ext t (64 * a) _ _ (by omega), show 64 * a + 64 * n = 64 * (a + n) by omega, show 64 * a + (64 * n + 64) = 64 * (a + n) + 64 by omega]
theorem ext_over (t : ByteArray) (i j : Nat) (h : t.size ≤ j) : t.extract i j = t.extract i t.size := by
 apply ByteArray.ext
 rw [ByteArray.data_extract, ByteArray.data_extract]
 rcases Nat.lt_or_eq_of_le h with h | h
 ·
  exact Array.extract_of_size_lt h
 ·
  rw [← h]
theorem ext_cat (t u : ByteArray) (a : Nat) (h : a ≤ t.size) : t.extract a t.size ++ u = (t ++ u).extract a (t ++ u).size := by
 rw [ByteArray.extract_append, ByteArray.size_append, ext_over t a (t.size + u.size) (by omega), show a - t.size = 0 by omega, show t.size + u.size - t.size = u.size by omega]
 rw [show u.extract 0 u.size = u by simp]
theorem takeI_ran (t u : ByteArray) (h : t.size + u.size < 18446744073709551616) : takeI (ran t) u = ran (t ++ u) := by
 have ha : 64 * (t.size / 64) ≤ t.size := by omega
 have hs : (t ++ u).size = t.size + u.size := ByteArray.size_append
 have hc := ext_cat t u (64 * (t.size / 64)) ha
 have hz : ((t ++ u).extract (64 * (t.size / 64)) (t ++ u).size).size = t.size + u.size - 64 * (t.size / 64) := by rw [ByteArray.size_extract, hs]; omega
 unfold takeI ran
 rw [hc, blks, eat_blksN _ _ rfl]
 rw [← chainI_append firstI t u _ ha, chainI_plus firstI (t ++ u) (t.size / 64) _ (by rw [hz, hs]; omega), hz, hs, ← hs, ext_ext _ _ _ _ (by rw [hs]; omega), hs]
 have e1 : t.size / 64 + (t.size + u.size - 64 * (t.size / 64)) / 64 = (t.size + u.size) / 64 := by omega
 have e2 : 64 * (t.size / 64) + 64 * ((t.size + u.size - 64 * (t.size / 64)) / 64) = 64 * ((t.size + u.size) / 64) := by omega
 have e3 : 64 * (t.size / 64) + (t.size + u.size - 64 * (t.size / 64)) = t.size + u.size := by omega
 have e4 : IntKind.u64.wrap ((t.size : Int) + (u.size : Int)) = ((t.size + u.size : Nat) : Int) := by rw [IntKind.wrap_u64]; omega
 rw [e1, e2, e3, e4]
theorem newRun_ran : newRun = ran ByteArray.empty := rfl
theorem ran_sum (t : ByteArray) (h : t.size < 1000000000000) : (ran t).sum = refSumI t := by
 have hp : (padI (t.size : Int)).size ≤ 72 := by rw [padI_size]; unfold padZ; omega
 rw [Run.sum, show (ran t).n = (t.size : Int) from rfl, takeI_ran t _ (by omega)]
 rfl
theorem sumI_ref (t : ByteArray) (h : t.size < 1000000000000) : sumI t = refSumI t := by
 have e : takeI newRun t = ran t := by
  rw [newRun_ran, takeI_ran _ _ (by show 0 + t.size < _; omega), ByteArray.empty_append]
 rw [sumI, e, ran_sum t h]
end Go.Proofs.YtijfifphcchbbaaDoor.P
namespace Go.Proofs.YtijfifphcchbbaaDoor.P
open Go.RowKit Go.Proofs.YtijfifphcchbbaaDoorW.PrintWords Go.Proofs.YtijfifphcchbbaaDoorW.PrintLast Go.Proofs.YtijfifphcchbbaaDoorW.PrintMore
set_option linter.unusedVariables false
set_option linter.unusedSimpArgs false
set_option linter.unnecessarySimpa false
structure OkU (u : SU128) : Prop where
 h0 : 0 ≤ u.f0 ∧ u.f0 < 18446744073709551616
 h1 : 0 ≤ u.f1 ∧ u.f1 < 18446744073709551616
theorem tagNodeText_eq (l r : SNode) (hl : l.f0.size ≤ 1000000) (hr : r.f0.size ≤ 1000000) : tag_NodeText.f l.f0 l.f1.f0 l.f1.f1 r.f0 r.f1.f0 r.f1.f1 = some (nodeText l r) := by
 unfold tag_NodeText.f
 rw [if_pos ⟨hl, hr⟩]
def dgI (w : Int) (t : ByteArray) : ByteArray := (refSumI t).extract 0 w.toNat
theorem refSumI_len (t : ByteArray) : (refSumI t).size = 32 := by
 rw [refSumI, digestI, strOfNums_size, digL_length]
theorem dgI_size (w : Int) (t : ByteArray) (h0 : 0 ≤ w) (h : w ≤ 32) : (dgI w t).size = w.toNat := by
 rw [dgI, ByteArray.size_extract, refSumI_len]; omega
theorem tagDigest_eq (w : Int) (t : ByteArray) (h0 : 1 ≤ w) (h1 : w ≤ 32) (ht : t.size ≤ 100000000) : tag_Digest.f w t = some (dgI w t) := by
 have e : sha_Sum.f t = some (refSumI t) := by rw [sha_Sum.f, if_pos (by omega), sumI_ref t (by omega)]
 unfold tag_Digest.f tag_MayWidth.f
 rw [if_pos h0]
 simp only [Option.bind_some, decide_eq_true h1, if_true, e]
 rw [if_pos (by omega), if_pos (by rw [refSumI_len]; omega)]
 rfl
def joinI (w : Int) (l r : SNode) : ByteArray × Int × Int × Int :=
 if nodeOf w l = true ∧ nodeOf w r = true then
  (if (addI128 l.f1.f0 l.f1.f1 r.f1.f0 r.f1.f1).2.2 = 0 then (dgI w (nodeText l r), (addI128 l.f1.f0 l.f1.f1 r.f1.f0 r.f1.f1).1, (addI128 l.f1.f0 l.f1.f1 r.f1.f0 r.f1.f1).2.1, 0) else (⟨#[]⟩, 0, 0, 10))
 else (⟨#[]⟩, 0, 0, 70)
theorem nodeOf_w {w : Int} {n : SNode} (h : nodeOf w n = true) : 1 ≤ w ∧ w ≤ 32 ∧ (n.f0.size : Int) = w := by
 simp only [nodeOf, Bool.and_eq_true, decide_eq_true_eq, beq_iff_eq] at h
 exact h
theorem join_ev (w : Int) (l r : SNode) (ul : OkU l.f1) (ur : OkU r.f1) : Ev (fun k => node_Join.f k w l.f0 l.f1.f0 l.f1.f1 r.f0 r.f1.f0 r.f1.f1) (joinI w l r) := by
 unfold node_Join.f joinI
 simp only [node_Of_eq, Option.bind_some]
 cases h1 : nodeOf w l with
 | false =>
  rw [if_neg (show ¬(false = true ∧ nodeOf w r = true) by simp)]
  exact Ev.congr (fun k => by rw [if_neg (show ¬ false = true by simp)]) (Ev.step (f := fun _ => some (⟨#[]⟩, 0, 0, 70)) (fun k => by rw [node_Join.j0, if_pos rfl]) (Ev.now _))
 | true =>
  refine Ev.congr (fun k => by rw [if_pos rfl]) ?_
  cases h2 : nodeOf w r with
  | false =>
   rw [if_neg (by simp)]
   exact Ev.step (f := fun _ => some (⟨#[]⟩, 0, 0, 70)) (fun k => by rw [node_Join.j0, if_pos (by rfl)]) (Ev.now _)
  | true =>
   rw [if_pos (by simp)]
   obtain ⟨w1, w2, w3⟩ := nodeOf_w h1
   obtain ⟨_, _, w4⟩ := nodeOf_w h2
   refine Ev.step (f := fun _ => some _) (fun k => ?_) (Ev.now _)
   rw [node_Join.j0, if_neg (by decide), u128Add_eq _ _ _ _ ul.h0 ul.h1 ur.h0 ur.h1]
   simp only [Option.bind_some, tagNodeText_eq l r (by omega) (by omega), tagDigest_eq w (nodeText l r) w1 w2 (by rw [nodeText_size]; omega)]
   split <;> rfl
end Go.Proofs.YtijfifphcchbbaaDoor.P
namespace Go.Proofs.YtijfifphcchbbaaDoor.P
open Go.RowKit Go.Proofs.YtijfifphcchbbaaDoorW.PrintWords Go.Proofs.YtijfifphcchbbaaDoorW.PrintLast Go.Proofs.YtijfifphcchbbaaDoorW.PrintMore
set_option linter.unusedVariables false
set_option linter.unusedSimpArgs false
set_option linter.unnecessarySimpa false
theorem tagLeafText_eq (l : SLeaf) (hid : l.f1.size ≤ 1000000) (hsa : l.f2.size ≤ 1000000) : tag_LeafText.f l.f0 l.f1 l.f2 l.f3.f0 l.f3.f1 = some (leafTextI l) := by
 unfold tag_LeafText.f
 rw [if_pos ⟨hid, hsa⟩]
def leafNodeI (w : Int) (l : SLeaf) : SNode := if (1 ≤ w ∧ w ≤ 32) ∧ mayLeafI l = true then ⟨dgI w (leafTextI l), l.f3⟩ else ⟨⟨#[]⟩, ⟨0, 0⟩⟩
theorem leafTextI_size (l : SLeaf) (hid : l.f1.size ≤ 1000000) (hsa : l.f2.size ≤ 1000000) : (leafTextI l).size ≤ 3000000 := by
 have z : ∀ x : Int, (strOfNums [x]).size = 1 := fun x => by rw [strOfNums_size]; rfl
 unfold leafTextI
 split
 ·
  split
  ·
   simp only [ByteArray.size_append, z, szI_size]; omega
  ·
   simp only [ByteArray.size_append, z, szI_size, u128B_size]; omega
 ·
  decide
abbrev nodeT (n : SNode) : ByteArray × Int × Int := (n.f0, n.f1.f0, n.f1.f1)
theorem tagLeafNode_ev (w : Int) (l : SLeaf) (hid : l.f1.size ≤ 1000000) (hsa : l.f2.size ≤ 1000000) : Ev (fun k => tag_LeafNode.f k w l.f0 l.f1 l.f2 l.f3.f0 l.f3.f1) (nodeT (leafNodeI w l)) := by
 unfold tag_LeafNode.f tag_MayWidth.f leafNodeI
 rw [tagMayLeaf_eq l hid]
 have hj : ∀ b : Bool, b = true → Ev (fun k => tag_LeafNode.j0 k w b l.f0 l.f1 l.f2 l.f3.f0 l.f3.f1) ((⟨#[]⟩ : ByteArray), 0, 0) := fun b hb => by
  subst hb; exact Ev.step (f := fun _ => some ((⟨#[]⟩ : ByteArray), (0 : Int), (0 : Int))) (fun k => by rw [tag_LeafNode.j0, if_pos rfl]) (Ev.now _)
 by_cases h1 : w ≥ 1
 ·
  by_cases h2 : w ≤ 32
  ·
   simp only [if_pos h1, decide_eq_true h2, Option.bind_some, if_true]
   cases hm : mayLeafI l with
   | false => rw [if_neg (by simp)]; exact hj _ rfl
   | true =>
    rw [if_pos ⟨⟨h1, h2⟩, rfl⟩]
    refine Ev.step (f := fun _ => some _) (fun k => ?_) (Ev.now _)
    rw [tag_LeafNode.j0, if_neg (by decide), tagLeafText_eq l hid hsa]
    simp only [Option.bind_some, tagDigest_eq w (leafTextI l) h1 h2 (by have := leafTextI_size l hid hsa; omega)]
  ·
   simp only [if_pos h1, decide_eq_false h2, Option.bind_some]
   rw [if_neg (fun h => h2 h.1.2)]; exact hj _ rfl
 ·
  simp only [if_neg h1, Option.bind_some]
  rw [if_neg (fun h => h1 h.1.1)]; exact hj _ rfl
theorem leafNodeI_ok (w : Int) (l : SLeaf) (ub : OkU l.f3) : OkU (leafNodeI w l).f1 := by
 unfold leafNodeI; split
 ·
  exact ub
 ·
  exact ⟨⟨by decide, by decide⟩, ⟨by decide, by decide⟩⟩
end Go.Proofs.YtijfifphcchbbaaDoor.P
namespace Go.Proofs.YtijfifphcchbbaaDoor.P
open Go.RowKit Go.Proofs.YtijfifphcchbbaaDoorW.PrintWords Go.Proofs.YtijfifphcchbbaaDoorW.PrintLast Go.Proofs.YtijfifphcchbbaaDoorW.PrintMore
attribute [local go_sem] max2_int min2_int max_two min_two max_three min_three max_four min_four-- for this text's walks alone
set_option linter.unusedVariables false
set_option linter.unusedSimpArgs false
def paymasterlaw16_LongEntry.f (k : Nat) (a0_0 : Bool) (a0_1 : ByteArray) (a0_2 : ByteArray) (a0_3 : Int) (a0_4 : Int) (a0_5 : Int) (l0_6 : List (SNode)) : Option (Bool) := if (l0_6.length : Int) > 100 then (some true) else ((paymasterlaw14_Great.f k l0_6).bind fun t137 => (if t137 = true then (some true) else ((paymasterlaw15_Great.f k (([(⟨a0_0, a0_1, a0_2, (⟨a0_3, a0_4⟩ : SU128)⟩ : SLeaf)] : List (SLeaf)))).bind fun t141 => (some t141))))
set_option maxHeartbeats 8000000 in
set_option maxRecDepth 100000 in
theorem paymasterlaw16_LongEntry.calls (k : Nat) (a0_0 : Bool) (a0_1 : ByteArray) (a0_2 : ByteArray) (a0_3 : Int) (a0_4 : Int) (a0_5 : Int) (A0_6 : Option Addr) (c0_6 : Nat) (l0_6 : List (SNode)) (r : Bool) (w : World) (hr0_6 : Kd.C kNode w A0_6 l0_6.length l0_6) (hc0_6 : l0_6.length ≤ c0_6) (h : paymasterlaw16_LongEntry.f k a0_0 a0_1 a0_2 a0_3 a0_4 a0_5 l0_6 = some r) :
  Calls Tryd.prog 27 #[.agg #[.bool a0_0, .string a0_1, .string a0_2, .int .u64 a0_3, .int .u64 a0_4, .int .u64 a0_5, .slice A0_6 l0_6.length c0_6]] w fun e w' => e = .returned (.bool r) ∧ Below w.heap.size w w' := by
 have hu61 := Tryd.underlying61
 have hu57 := Tryd.underlying57
 have HR0_6 := aM' hr0_6
 have HC0_6 := aM' hc0_6
 clear hr0_6 hc0_6
 have HB := aM' (Below.refl w.heap.size w)
 have H : (if (l0_6.length : Int) > 100 then (some true) else ((paymasterlaw14_Great.f k l0_6).bind fun t137 => (if t137 = true then (some true) else ((paymasterlaw15_Great.f k (([(⟨a0_0, a0_1, a0_2, (⟨a0_3, a0_4⟩ : SU128)⟩ : SLeaf)] : List (SLeaf)))).bind fun t141 => (some t141))))) = some r := h
 clear h
 by_cases c2 : (l0_6.length : Int) > 100
 ·
  rw [if_pos c2] at H
  have c2b0 : decide (100 < (l0_6.length : Int)) = true := decide_eq_true c2
  have c2b1 : decide (100 < l0_6.length) = true := decide_eq_true (by omega)
  clear c2
  obtain rfl := Option.some.inj H
  go_enter Tryd.func27, Tryd.ntmps27
  go_wp2_with (first | ((with_reducible refine gate_dst (N := 1) rfl ?_); (try (refine gate_guard (by rfl) ?_; dsimp only)); refine box_event ?hg (N := 1) ?hd (cs := #[.bool a0_0, .string a0_1, .string a0_2, .int .u64 a0_3, .int .u64 a0_4, .int .u64 a0_5, .slice A0_6 l0_6.length c0_6]) (t := 61) ?hr ?_; (case hd => rfl); (case hg => rfl); (case hr => first | (go_simp; done) | (go_simp; rfl)); intro gb136 hg w3 hbox hb; have n0_ := aM' (below_step (by repeat (first | (with_reducible first | exact HB.out | apply below_alloc | apply pw_below_drewN | apply below_drew1) | exact HB.out)) hb); have n1_ := aM' (hbox); have n2_ := aM' ((by rw [hg]; exact (below_size (by repeat (first | (with_reducible first | exact HB.out | apply below_alloc | apply pw_below_drewN | apply below_drew1) | exact HB.out))) : w.heap.size ≤ gb136)); have n3_ := aM' ((by rw [hg]; exact (below_size (by repeat (first | (with_reducible first | exact HB.out | apply below_alloc | apply pw_below_drewN | apply below_drew1) | exact HB.out))) : w.heap.size ≤ gb136)); clear HB; have HB := n0_; have BK136 := n1_; have GW136 := n2_; have GE136 := n3_; clear n0_ n1_ n2_ n3_; clear hb hbox hg; have hcz4_0 : w3.cell? ⟨gb136, 0, none⟩ = some (.bool a0_0) := (blk_cell BK136.out 0).trans rfl; have hcz4_1 : w3.cell? ⟨gb136, 1, none⟩ = some (.string a0_1) := (blk_cell BK136.out 1).trans rfl; have hcz4_2 : w3.cell? ⟨gb136, 2, none⟩ = some (.string a0_2) := (blk_cell BK136.out 2).trans rfl; have hcz4_3 : w3.cell? ⟨gb136, 3, none⟩ = some (.int .u64 a0_3) := (blk_cell BK136.out 3).trans rfl; have hcz4_4 : w3.cell? ⟨gb136, 4, none⟩ = some (.int .u64 a0_4) := (blk_cell BK136.out 4).trans rfl; have hcz4_5 : w3.cell? ⟨gb136, 5, none⟩ = some (.int .u64 a0_5) := (blk_cell BK136.out 5).trans rfl; have hcz4_6 : w3.cell? ⟨gb136, 6, none⟩ = some (.slice A0_6 l0_6.length c0_6) := (blk_cell BK136.out 6).trans rfl; have hfz4_0 := blk_frozen BK136.out 0; have hfz4_1 := blk_frozen BK136.out 1; have hfz4_2 := blk_frozen BK136.out 2; have hfz4_3 := blk_frozen BK136.out 3; have hfz4_4 := blk_frozen BK136.out 4; have hfz4_5 := blk_frozen BK136.out 5; have hfz4_6 := blk_frozen BK136.out 6))
  go_ret
  exact ⟨by first | rfl | (simp [errW_none, errW_some] <;> rfl) | (simp [*, errW_none, errW_some] <;> rfl), by repeat (first | (with_reducible first | exact HB.out | apply below_alloc | apply pw_below_drewN | apply below_drew1 | refine below_set ?_ GE136.out) | exact HB.out)⟩
 ·
  rw [if_neg c2] at H
  have c2b0 : decide (100 < (l0_6.length : Int)) = false := decide_eq_false c2
  have c2b1 : decide (100 < l0_6.length) = false := decide_eq_false (by omega)
  clear c2
  replace H := Option.bind_eq_some_iff.mp H
  obtain ⟨t137, A50, H⟩ := H
  replace H : (if t137 = true then (some true) else ((paymasterlaw15_Great.f k (([(⟨a0_0, a0_1, a0_2, (⟨a0_3, a0_4⟩ : SU128)⟩ : SLeaf)] : List (SLeaf)))).bind fun t141 => (some t141))) = some r := H
  have A5 := aM' A50
  clear A50
  by_cases c6 : t137 = true
  ·
   subst c6
   have H1 : (some true) = some r := by rw [if_pos rfl] at H; exact H
   clear H
   have H := H1
   clear H1
   obtain rfl := Option.some.inj H
   go_enter Tryd.func27, Tryd.ntmps27
   go_wp2_with (first | ((with_reducible refine gate_dst (N := 1) rfl ?_); (try (refine gate_guard (by rfl) ?_; dsimp only)); refine box_event ?hg (N := 1) ?hd (cs := #[.bool a0_0, .string a0_1, .string a0_2, .int .u64 a0_3, .int .u64 a0_4, .int .u64 a0_5, .slice A0_6 l0_6.length c0_6]) (t := 61) ?hr ?_; (case hd => rfl); (case hg => rfl); (case hr => first | (go_simp; done) | (go_simp; rfl)); intro gb136 hg w7 hbox hb; have n0_ := aM' (below_step (by repeat (first | (with_reducible first | exact HB.out | apply below_alloc | apply pw_below_drewN | apply below_drew1) | exact HB.out)) hb); have n1_ := aM' (hbox); have n2_ := aM' ((by rw [hg]; exact (below_size (by repeat (first | (with_reducible first | exact HB.out | apply below_alloc | apply pw_below_drewN | apply below_drew1) | exact HB.out))) : w.heap.size ≤ gb136)); have n3_ := aM' ((by rw [hg]; exact (below_size (by repeat (first | (with_reducible first | exact HB.out | apply below_alloc | apply pw_below_drewN | apply below_drew1) | exact HB.out))) : w.heap.size ≤ gb136)); clear HB; have HB := n0_; have BK136 := n1_; have GW136 := n2_; have GE136 := n3_; clear n0_ n1_ n2_ n3_; clear hb hbox hg; have hcz8_0 : w7.cell? ⟨gb136, 0, none⟩ = some (.bool a0_0) := (blk_cell BK136.out 0).trans rfl; have hcz8_1 : w7.cell? ⟨gb136, 1, none⟩ = some (.string a0_1) := (blk_cell BK136.out 1).trans rfl; have hcz8_2 : w7.cell? ⟨gb136, 2, none⟩ = some (.string a0_2) := (blk_cell BK136.out 2).trans rfl; have hcz8_3 : w7.cell? ⟨gb136, 3, none⟩ = some (.int .u64 a0_3) := (blk_cell BK136.out 3).trans rfl; have hcz8_4 : w7.cell? ⟨gb136, 4, none⟩ = some (.int .u64 a0_4) := (blk_cell BK136.out 4).trans rfl; have hcz8_5 : w7.cell? ⟨gb136, 5, none⟩ = some (.int .u64 a0_5) := (blk_cell BK136.out 5).trans rfl; have hcz8_6 : w7.cell? ⟨gb136, 6, none⟩ = some (.slice A0_6 l0_6.length c0_6) := (blk_cell BK136.out 6).trans rfl; have hfz8_0 := blk_frozen BK136.out 0; have hfz8_1 := blk_frozen BK136.out 1; have hfz8_2 := blk_frozen BK136.out 2; have hfz8_3 := blk_frozen BK136.out 3; have hfz8_4 := blk_frozen BK136.out 4; have hfz8_5 := blk_frozen BK136.out 5; have hfz8_6 := blk_frozen BK136.out 6) | (go_at_call 13; (with_reducible refine (paymasterlaw14_Great.calls k _ _ l0_6 true _ ?side1 ?side2 A5.out).mono ?_); (case side1 => repeat (first | exact (Kd.C_below HR0_6.out HB.out) | (with_reducible refine Kd.C_alloc ?_ _) | (with_reducible refine Kd.C_drewN ?_ _) | (with_reducible refine Kd.C_drew ?_))); (case side2 => exact HC0_6.out); rintro e w' ⟨rfl, ⟨nd, rfl⟩⟩))
   go_ret
   exact ⟨by first | rfl | (simp [errW_none, errW_some] <;> rfl) | (simp [*, errW_none, errW_some] <;> rfl), by repeat (first | (with_reducible first | exact HB.out | apply below_alloc | apply pw_below_drewN | apply below_drew1 | refine below_set ?_ GE136.out) | exact HB.out)⟩
  ·
   replace c6 := Bool.eq_false_iff.mpr c6
   subst c6
   have H1 : ((paymasterlaw15_Great.f k (([(⟨a0_0, a0_1, a0_2, (⟨a0_3, a0_4⟩ : SU128)⟩ : SLeaf)] : List (SLeaf)))).bind fun t141 => (some t141)) = some r := by rw [if_neg (show ¬ (false = true) by decide)] at H; exact H
   clear H
   have H := H1
   clear H1
   obtain ⟨y138, hy138⟩ : ∃ y_ : List (SLeaf), y_ = (([(⟨a0_0, a0_1, a0_2, (⟨a0_3, a0_4⟩ : SU128)⟩ : SLeaf)] : List (SLeaf))) := ⟨_, rfl⟩
   replace H : ((paymasterlaw15_Great.f k y138).bind fun t141 => (some t141)) = some r := by first | (rw [hy138]; with_reducible exact H) | (have H2_ := (Option.bind_some _ _).symm.trans H; rw [hy138]; with_reducible exact H2_) | (have H2_ := (Option.bind_some _ _).symm.trans H; with_reducible exact H2_) | with_reducible exact H | (rw [hy138]; exact H) | exact H
   have Ny138 := aM' hy138
   clear hy138
   replace H := Option.bind_eq_some_iff.mp H
   obtain ⟨t141, A90, H⟩ := H
   replace H : (some t141) = some r := H
   have A9 := aM' A90
   clear A90
   obtain rfl := Option.some.inj H
   go_enter Tryd.func27, Tryd.ntmps27
   go_wp2_with (first | ((with_reducible refine gate_dst (N := 1) rfl ?_); (try (refine gate_guard (by rfl) ?_; dsimp only)); refine box_event ?hg (N := 1) ?hd (cs := #[.bool a0_0, .string a0_1, .string a0_2, .int .u64 a0_3, .int .u64 a0_4, .int .u64 a0_5, .slice A0_6 l0_6.length c0_6]) (t := 61) ?hr ?_; (case hd => rfl); (case hg => rfl); (case hr => first | (go_simp; done) | (go_simp; rfl)); intro gb136 hg w10 hbox hb; have n0_ := aM' (below_step (by repeat (first | (with_reducible first | exact HB.out | apply below_alloc | apply pw_below_drewN | apply below_drew1) | exact HB.out)) hb); have n1_ := aM' (hbox); have n2_ := aM' ((by rw [hg]; exact (below_size (by repeat (first | (with_reducible first | exact HB.out | apply below_alloc | apply pw_below_drewN | apply below_drew1) | exact HB.out))) : w.heap.size ≤ gb136)); have n3_ := aM' ((by rw [hg]; exact (below_size (by repeat (first | (with_reducible first | exact HB.out | apply below_alloc | apply pw_below_drewN | apply below_drew1) | exact HB.out))) : w.heap.size ≤ gb136)); clear HB; have HB := n0_; have BK136 := n1_; have GW136 := n2_; have GE136 := n3_; clear n0_ n1_ n2_ n3_; clear hb hbox hg; have hcz11_0 : w10.cell? ⟨gb136, 0, none⟩ = some (.bool a0_0) := (blk_cell BK136.out 0).trans rfl; have hcz11_1 : w10.cell? ⟨gb136, 1, none⟩ = some (.string a0_1) := (blk_cell BK136.out 1).trans rfl; have hcz11_2 : w10.cell? ⟨gb136, 2, none⟩ = some (.string a0_2) := (blk_cell BK136.out 2).trans rfl; have hcz11_3 : w10.cell? ⟨gb136, 3, none⟩ = some (.int .u64 a0_3) := (blk_cell BK136.out 3).trans rfl; have hcz11_4 : w10.cell? ⟨gb136, 4, none⟩ = some (.int .u64 a0_4) := (blk_cell BK136.out 4).trans rfl; have hcz11_5 : w10.cell? ⟨gb136, 5, none⟩ = some (.int .u64 a0_5) := (blk_cell BK136.out 5).trans rfl; have hcz11_6 : w10.cell? ⟨gb136, 6, none⟩ = some (.slice A0_6 l0_6.length c0_6) := (blk_cell BK136.out 6).trans rfl; have hfz11_0 := blk_frozen BK136.out 0; have hfz11_1 := blk_frozen BK136.out 1; have hfz11_2 := blk_frozen BK136.out 2; have hfz11_3 := blk_frozen BK136.out 3; have hfz11_4 := blk_frozen BK136.out 4; have hfz11_5 := blk_frozen BK136.out 5; have hfz11_6 := blk_frozen BK136.out 6) | (go_at_call 13; (with_reducible refine (paymasterlaw14_Great.calls k _ _ l0_6 false _ ?side1 ?side2 A5.out).mono ?_); (case side1 => repeat (first | exact (Kd.C_below HR0_6.out HB.out) | (with_reducible refine Kd.C_alloc ?_ _) | (with_reducible refine Kd.C_drewN ?_ _) | (with_reducible refine Kd.C_drew ?_))); (case side2 => exact HC0_6.out); rintro e w' ⟨rfl, ⟨nd, rfl⟩⟩) | ((with_reducible refine gate_dst (N := 17) rfl ?_); (try (refine gate_guard (by rfl) ?_; dsimp only)); refine Kd.R_lit kLeaf _ 57 ?hg (N := 17) ?hd (xs := ([(⟨a0_0, a0_1, a0_2, (⟨a0_3, a0_4⟩ : SU128)⟩ : SLeaf)] : List (SLeaf))) (inner := [.bool a0_0, .string a0_1, .string a0_2, .int .u64 a0_3, .int .u64 a0_4]) (ok := fun _ => True) (okp := fun _ => True) ?hr ?hp (fun _ hk => hk) trivial (Below.refl _ _) (Nat.le_refl _) (by simp) ?_; (case hd => rfl); (case hg => rfl); (case hr => first | (go_simp; done) | (go_simp; rfl)); (case hp => exact (Reps.c5 (show Kd.M kLeaf _ _ _ (⟨a0_0, a0_1, a0_2, (⟨a0_3, a0_4⟩ : SU128)⟩ : SLeaf) [.bool a0_0, .string a0_1, .string a0_2, .int .u64 a0_3, .int .u64 a0_4] from (kLeaf_mkM _ _ _ (⟨a0_0, a0_1, a0_2, (⟨a0_3, a0_4⟩ : SU128)⟩ : SLeaf) )) (Reps.none _ _))); intro v139 w12 ho13 hb hg_ hnew_; clear hg_ hnew_; (first | rw [← Ny138.out] at ho13 | (simp only [Int.reduceToNat] at ho13; rw [← Ny138.out] at ho13)); have n0_ := aM' (Kd.R_lower ho13 (below_size (by repeat (first | (with_reducible first | exact HB.out | apply below_alloc | apply pw_below_drewN | apply below_drew1 | refine below_set ?_ GE136.out) | exact HB.out)))); have n1_ := aM' (blk_below (g := gb136) (o := .cells #[.bool a0_0, .string a0_1, .string a0_2, .int .u64 a0_3, .int .u64 a0_4, .int .u64 a0_5, .slice A0_6 l0_6.length c0_6] 61 (0, 0)) (by (with_reducible repeat (first | refine blk_drewN ?_ _ | refine blk_drew ?_ | refine blk_alloc ?_ _)); exact BK136.out) hb); have n2_ := aM' (below_step (by repeat (first | (with_reducible first | exact HB.out | apply below_alloc | apply pw_below_drewN | apply below_drew1 | refine below_set ?_ GE136.out) | exact HB.out)) hb); clear BK136; clear HB; have HO140 := n0_; have BK136 := n1_; have HB := n2_; clear n0_ n1_ n2_; clear hb ho13; obtain ⟨Ao14, co14, eo14⟩ := Kd.R_slice HO140.out; subst eo14) | (go_at_call 31; (with_reducible refine (paymasterlaw15_Great.calls k _ _ y138 t141 _ ?side1 ?side2 A9.out).mono ?_); (case side1 => repeat (first | exact (Kd.R_reads' HO140.out).2.2 | (with_reducible refine Kd.C_alloc ?_ _) | (with_reducible refine Kd.C_drewN ?_ _) | (with_reducible refine Kd.C_drew ?_))); (case side2 => exact (Kd.R_reads' HO140.out).2.1); rintro e w' ⟨rfl, ⟨nd, rfl⟩⟩))
   go_ret
   exact ⟨by first | rfl | (simp [errW_none, errW_some] <;> rfl) | (simp [*, errW_none, errW_some] <;> rfl), by repeat (first | (with_reducible first | exact HB.out | apply below_alloc | apply pw_below_drewN | apply below_drew1 | refine below_set ?_ GE136.out) | exact HB.out)⟩
end Go.Proofs.YtijfifphcchbbaaDoor.P
namespace Go.Proofs.YtijfifphcchbbaaDoor.P
open Go.RowKit Go.Proofs.YtijfifphcchbbaaDoorW.PrintWords Go.Proofs.YtijfifphcchbbaaDoorW.PrintLast Go.Proofs.YtijfifphcchbbaaDoorW.PrintMore
set_option linter.unusedVariables false
set_option linter.unusedSimpArgs false
set_option linter.unnecessarySimpa false
theorem rdLeaf_nat (l : List SLeaf) (i : Nat) (h : i < l.length) : rd_TLeaf l (i : Int) = l[i] := by simp [rd_TLeaf, h]
theorem great15_loop (l : List SLeaf) (hl : l.length ≤ 9223372036854775807) : ∀ d i : Nat, i + d = l.length → Ev (fun k => paymasterlaw15_Great.l0 k l (i : Int)) ((l.drop i).any fun n => decide (200 < n.f1.size) || decide (200 < n.f2.size)) := by
 intro d
 induction d with
 | zero =>
  intro i hi
  refine Ev.step (f := fun _ => some false) (fun k => ?_) (ev_eq (Ev.now false) ?_)
  ·
   simp only [paymasterlaw15_Great.l0]; rw [if_neg (by omega)]
  ·
   rw [List.drop_of_length_le (by omega)]; rfl
 | succ d ih =>
  intro i hi
  have hlt : i < l.length := by omega
  rw [any_drop_succ _ l i hlt]
  by_cases hb : 200 < l[i].f1.size
  ·
   refine Ev.step (f := fun _ => some true) (fun k => ?_) (ev_eq (Ev.now true) (by simp [hb]))
   simp only [paymasterlaw15_Great.l0]; rw [if_pos (by omega), if_pos (by omega), rdLeaf_nat l i hlt, if_pos (by omega)]
  ·
   by_cases hc : 200 < l[i].f2.size
   ·
    refine Ev.step (f := fun _ => some true) (fun k => ?_) (ev_eq (Ev.now true) (by simp [hc]))
    simp only [paymasterlaw15_Great.l0]; rw [if_pos (by omega), if_pos (by omega), rdLeaf_nat l i hlt, if_neg (by omega), if_pos (by omega)]
   ·
    refine Ev.step (f := fun k => paymasterlaw15_Great.l0 k l ((i + 1 : Nat) : Int)) (fun k => ?_) (ev_eq (ih (i + 1) (by omega)) (by simp [hb, hc]))
    simp only [paymasterlaw15_Great.l0]; rw [if_pos (by omega), if_pos (by omega), rdLeaf_nat l i hlt, if_neg (by omega), if_neg (by omega), wrap64_id (by omega) (by omega)]; rfl
def greatL (l : List SLeaf) : Bool := decide (70 < l.length) || l.any fun n => decide (200 < n.f1.size) || decide (200 < n.f2.size)
theorem great15_ev (l : List SLeaf) (hl : l.length ≤ 9223372036854775807) : Ev (fun k => paymasterlaw15_Great.f k l) (greatL l) := by
 unfold paymasterlaw15_Great.f greatL
 by_cases h : 70 < l.length
 ·
  exact Ev.some_ (fun k => by rw [if_pos (by omega)]; simp [h])
 ·
  refine Ev.congr (fun k => by rw [if_neg (by omega)]; rfl) (ev_eq (great15_loop l hl l.length 0 (by omega)) (by simp [h]))
def longE (e : SEntry) : Bool := decide (100 < e.f1.f1.length) || (greatN e.f1.f1 || greatL [e.f0])
theorem longE_ev (e : SEntry) (hl : e.f1.f1.length ≤ 9223372036854775807) : Ev (fun k => paymasterlaw16_LongEntry.f k e.f0.f0 e.f0.f1 e.f0.f2 e.f0.f3.f0 e.f0.f3.f1 e.f1.f0 e.f1.f1) (longE e) := by
 unfold paymasterlaw16_LongEntry.f longE
 by_cases h : 100 < e.f1.f1.length
 ·
  exact Ev.some_ (fun k => by rw [if_pos (by omega)]; simp [h])
 ·
  refine Ev.congr (fun k => by rw [if_neg (by omega)]) (Ev.bind (great14_ev _ hl) ?_)
  cases hg : greatN e.f1.f1 with
  | true => exact Ev.some_ (fun k => by simp)
  | false =>
   refine Ev.congr (fun k => by rw [if_neg (by simp)]) (Ev.bind (great15_ev [e.f0] (by simp)) ?_)
   exact Ev.some_ (fun k => by simp [h])
def shapeN (a0 a1 p : Int) (l : List SNode) : Int := if a1 < 0 ∨ a1 > 63 then 120 else if a0 < 1 ∨ a0 > 32 ∨ l.any (fun n => !nodeOf a0 n) = true then 70 else if (l.length : Int) ≠ a1 ∨ p / 2 ^ a1.toNat ≠ 0 then 160 else 0
theorem proofShape_eq (a0 a1 p : Int) (l : List SNode) : proof_Shape.f a0 a1 p l = some (shapeN a0 a1 p l) := rfl
end Go.Proofs.YtijfifphcchbbaaDoor.P
namespace Go.Proofs.YtijfifphcchbbaaDoor.P
open Go.RowKit Go.Proofs.YtijfifphcchbbaaDoorW.PrintWords Go.Proofs.YtijfifphcchbbaaDoorW.PrintLast Go.Proofs.YtijfifphcchbbaaDoorW.PrintMore
set_option linter.unusedVariables false
set_option linter.unusedSimpArgs false
set_option linter.unnecessarySimpa false
attribute [local go_sem] Oper.semAt_some
theorem nodesKeep {w w' : World} {A : Option Addr} {n : Nat} {l : List SNode} (h : Kd.C kNode w A n l) (hb : ∀ a, A = some a → w'.heap[a.block]? = w.heap[a.block]?) : Kd.C kNode w' A n l := by
 obtain ⟨h1, h2, h3⟩ := h
 refine ⟨h1, h2, fun h0 => ?_⟩
 obtain ⟨a, ha, hall⟩ := h3 h0
 refine ⟨a, ha, fun j p hj => ?_⟩
 obtain ⟨cs, hl, hK, hc⟩ := hall j p hj
 obtain rfl := kNode_open hK
 refine ⟨_, hl, kNode_mk w' p, fun i u hu => ?_⟩
 rw [← hc i u hu]
 refine World.cell?_of_block ?_
 have : (a.add (j * kNode.sz + i)).block = a.block := by unfold Addr.add; split <;> rfl
 rw [this]
 exact hb a ha
def KeepS (S : Nat → Prop) (W W' : World) : Prop := ∀ k, S k → W'.heap[k]? = W.heap[k]?
theorem KeepS.trans {S : Nat → Prop} {A B C : World} (h : KeepS S A B) (k : KeepS S B C) : KeepS S A C := fun i hi => (k i hi).trans (h i hi)
theorem KeepS.alloc {S : Nat → Prop} {W w : World} (h : KeepS S W w) (hlt : ∀ k, S k → k < W.heap.size) (v : Obj) : KeepS S W (w.alloc v).drew := fun k hk => by
 have h1 := h k hk
 have h2 : k < w.heap.size := by
  rw [Array.getElem?_eq_getElem (hlt k hk)] at h1
  exact (Array.getElem?_eq_some_iff.1 h1).1
 exact ((World.grownBy_alloc w v none).block k h2 (by simp)).trans h1
def rightS (p : Int) (k : Nat) : Bool := Go.bits .and .u64 (p / 2 ^ k) 1 == 0
def turnsTo (p : Int) (xs : List SNode) (k : Nat) : List (SNode × Bool) := (List.range k).map fun i => (xs.getD i ⟨ByteArray.empty, ⟨0, 0⟩⟩, rightS p i)
theorem turnsTo_succ (p : Int) (xs : List SNode) (k : Nat) (h : k < xs.length) : turnsTo p xs (k + 1) = turnsTo p xs k ++ [(xs[k], rightS p k)] := by
 simp [turnsTo, List.range_succ, List.getD_eq_getElem?_getD, h]
theorem turnsTo_length (p : Int) (xs : List SNode) (k : Nat) : (turnsTo p xs k).length = k := by simp [turnsTo]
abbrev turnV (x : SNode × Bool) : Array Value := #[nodeV x.1, .bool x.2]
theorem grown_drew (W : World) : W.grownBy W.drew none := ⟨rfl, rfl, rfl, Nat.le_refl _, fun _ _ _ => rfl⟩
theorem bar_none {w w1 w2 : World} (h : w.grownBy w1 none) (k : w1.grownBy w2 none) : w.grownBy w2 none :=
 ⟨k.os.trans h.os, k.tape.trans h.tape, k.output.trans h.output, Nat.le_trans h.size k.size, fun i hi hn => (k.block i (lL' hi h.size) hn).trans (h.block i hi hn)⟩
set_option maxRecDepth 100000 in
set_option maxHeartbeats 400000 in
theorem turns1_in (F : Fence) (n : Nat) (hf : F.fn 104) (hro : F.round = none) (hn : 1 ≤ n) (l sb pb B : Nat) (p : Int) (hp : 0 ≤ p) (A : Option Addr) (c : Nat) (xs : List SNode) (hx63 : xs.length ≤ 63) (S : Nat → Prop) (hSs : S sb) (hSp : S pb) (hSA : 0 < xs.length → ∀ a, A = some a → S a.block) (Ok : SNode → Prop) (hok : ∀ x ∈ xs, Ok x)
  (J Jx : List (SNode × Bool) → World → Prop) (hJ : AbidesFrom B J)
  (hY : ∀ pre x W, Ok x.1 → J pre W → pre.length < xs.length → YieldAt F (n - 1) Tryd.prog l (turnV x) W fun e W' => (e = .returned (.bool true) ∧ J (pre ++ [x]) W' ∧ KeepS S W W') ∨ (e = .returned (.bool false) ∧ Jx (pre ++ [x]) W'))
  (W : World) (hs : W.heap[sb]? = some (.cells #[.slice A xs.length c] 22 (0, 0))) (hpb : W.heap[pb]? = some (.cells #[.int .u64 p] 24 (0, 0))) (hr : Kd.C kNode W A xs.length xs) (hlt : ∀ k, S k → k < W.heap.size) (h0 : J [] W) :
  CallsIn F n Tryd.prog 104 #[.func (.yield l) #[] #[], .pointer (some ⟨sb, 0, none⟩), .pointer (some ⟨pb, 0, none⟩)] W fun e W' => (∃ v, e = .returned v) ∧ ((∃ ys, ys = turnsTo p xs xs.length ∧ J ys W') ∨ (∃ pre, (∃ k, k ≤ xs.length ∧ pre = turnsTo p xs k) ∧ Jx pre W')) := by
 obtain ⟨Ff, Fd, Fa, Fr⟩ := F
 obtain rfl : Fr = none := hro
 have hs0 : W.cell? ⟨sb, 0, none⟩ = some (.slice A xs.length c) := blk_cell hs 0
 have HS := aM' hs
 have HP := aM' hpb
 have HR := aM' hr
 have HL := aM' hlt
 have HJ := aM' hJ
 have HY := aM' hY
 have HOK := aM' hok
 clear hok
 clear hs hpb hr hlt hJ hY
 refine callsIn_of_wp Tryd.func104 rfl hf ?_
 simp only [Tryd.ntmps104, List.size_toArray, List.length_cons, List.length_nil, Nat.reduceAdd, Nat.reduceSub, Array.replicate_succ, Array.replicate_zero, List.push_toArray, List.append_toArray, List.nil_append, List.cons_append]
 gi_wp2
 clear hs0
 gi_loopw [8] (fun i wr => ∃ k : Nat, k ≤ xs.length ∧ i = .int .i64 k ∧ Aside0 (J (turnsTo p xs k) wr) ∧ Aside0 (KeepS S W wr)) (fun i _ => xs.length - (intOf i).toNat)
 case atStart => exact ⟨0, Nat.zero_le _, rfl, ⟨h0⟩, ⟨fun _ _ => rfl⟩⟩
 case round =>
  obtain ⟨k, hk, rfl, HJs, HK⟩ := hrel
  by_cases hlt : k < xs.length
  ·
   have b1 : decide ((k : Int) < (xs.length : Int)) = true := decide_eq_true (by omega)
   have p1 : 0 ≤ (k : Int) := by omega
   have p2 : (k : Int) < (xs.length : Int) := by omega
   have hr2 : Kd.C kNode wr A xs.length xs := nodesKeep HR.out (fun a ha => HK.out _ (hSA (by omega) a ha))
   obtain ⟨ad, e, hx0, hx1, hx2⟩ := at_TNode hr2 (k : Int) p1 p2
   rw [rd_TNode_at xs k hlt, Int.toNat_natCast] at hx0 hx1 hx2
   obtain ⟨x, hx⟩ : ∃ x, x = xs[k] := ⟨_, rfl⟩
   rw [← hx] at hx0 hx1 hx2
   have hp0 : wr.cell? ⟨pb, 0, none⟩ = some (.int .u64 p) := blk_cell ((HK.out pb hSp).trans HP.out) 0
   have hpl : pb < wr.heap.size := blk_lt ((HK.out pb hSp).trans HP.out)
   have hpn : pb ≠ wr.heap.size := Nat.ne_of_lt hpl
   have HX := aM' hx
   have hokx : Ok x := by rw [hx]; exact HOK.out _ (List.getElem_mem _)
   clear hx
   cases e
   have hg1 : wr.grownBy (wr.alloc (.cells #[.string x.f0, .int .u64 x.f1.f0, .int .u64 x.f1.f1] 28)).drew none := bar_none (World.grownBy_alloc wr _ none) (grown_drew _)
   obtain ⟨fn, tmps, assign, body, hy, hR⟩ := HY.out (turnsTo p xs k) (x, rightS p k) (wr.alloc (.cells #[.string x.f0, .int .u64 x.f1.f0, .int .u64 x.f1.f1] 28)).drew hokx (HJ.out _ wr _ none HJs.out hg1 (fun r e => by cases e)) (by rw [turnsTo_length]; exact hlt)
   have hy2 : (Instr.yield l #[.agg #[.string x.f0, .int .u64 x.f1.f0, .int .u64 x.f1.f1], .bool (Go.bits .and .u64 (p / 2 ^ k) 1 == 0)]).run Tryd.prog (wr.alloc (.cells #[.string x.f0, .int .u64 x.f1.f0, .int .u64 x.f1.f1] 28)).drew = .ok (.round l fn tmps assign body) (wr.alloc (.cells #[.string x.f0, .int .u64 x.f1.f0, .int .u64 x.f1.f1] 28)).drew := hy
   have hR2 := hR.mono (fun e W' h => (show ∃ b : Bool, e = .returned (.bool b) ∧ Aside0 ((b = true ∧ J (turnsTo p xs k ++ [(x, rightS p k)]) W' ∧ KeepS S (wr.alloc (.cells #[.string x.f0, .int .u64 x.f1.f0, .int .u64 x.f1.f1] 28)).drew W') ∨ (b = false ∧ Jx (turnsTo p xs k ++ [(x, rightS p k)]) W')) from
    h.elim (fun h => ⟨true, h.1, ⟨.inl ⟨rfl, h.2⟩⟩⟩) (fun h => ⟨false, h.1, ⟨.inr ⟨rfl, h.2⟩⟩⟩)))
   clear hy hR
   gi_wp2
   clear hg1 hr2
   gi_region_with (refine hR2.mono ?_; clear hR2 hy2 hx0 hx1 hx2 hp0 b1 p1 p2 hpn hpl; rintro e W3 ⟨b, rfl, HE⟩)
   all_goals
    have HKW := aM' (HK.out.alloc HL.out (.cells #[.string x.f0, .int .u64 x.f1.f0, .int .u64 x.f1.f1] 28))
    have HE2 := aM' (show turnsTo p xs (k + 1) = turnsTo p xs k ++ [(x, rightS p k)] by rw [turnsTo_succ p xs k hlt, HX.out])
    cases b with
    | true =>
     obtain ⟨-, hJ2, hK2⟩ | ⟨h, -⟩ := HE.out
     case inr => exact absurd h (by decide)
     have HJ2 := aM' hJ2
     have HK2 := aM' hK2
     clear hJ2 hK2
     gi_wp2
     exact ⟨⟨k + 1, hlt, rfl, ⟨by rw [HE2.out]; exact HJ2.out⟩, ⟨HKW.out.trans HK2.out⟩⟩, by simp [intOf]; omega⟩
    | false =>
     obtain ⟨h, -⟩ | ⟨-, hJ2⟩ := HE.out
     case inl => exact absurd h (by decide)
     have HJ2 := aM' hJ2
     clear hJ2
     gi_wp2
     refine bodyPost_ret (results_none rfl _ _ _) rfl ?_
     exact ⟨⟨_, rfl⟩, .inr ⟨_, ⟨k + 1, hlt, HE2.out.symm⟩, HJ2.out⟩⟩
  ·
   have b1 : decide ((k : Int) < (xs.length : Int)) = false := decide_eq_false (by omega)
   obtain rfl : k = xs.length := by omega
   gi_wp2
   go_end0
   exact ⟨⟨_, rfl⟩, .inl ⟨_, rfl, HJs.out⟩⟩
end Go.Proofs.YtijfifphcchbbaaDoor.P
namespace Go.Proofs.YtijfifphcchbbaaDoor.P
open Go.RowKit Go.Proofs.YtijfifphcchbbaaDoorW.PrintWords Go.Proofs.YtijfifphcchbbaaDoorW.PrintLast Go.Proofs.YtijfifphcchbbaaDoorW.PrintMore
set_option linter.unusedVariables false
set_option linter.unusedSimpArgs false
set_option linter.unnecessarySimpa false
theorem all1.calls (wd : Int) (B : Nat) (x : SNode) (W : World) (hB : W.heap[B]? = some (.cells #[.int .i64 wd] 3 (0, 0))) :
  Calls Tryd.prog 98 #[nodeV x, .pointer (some ⟨B, 0, none⟩)] W fun e W' => e = .returned (.bool (!nodeOf wd x)) ∧ Below W.heap.size W W' := by
 have hc : W.cell? ⟨B, 0, none⟩ = some (.int .i64 wd) := blk_cell hB 0
 have hlt : B < W.heap.size := blk_lt hB
 have hne : B ≠ W.heap.size := Nat.ne_of_lt hlt
 go_enter Tryd.func98, Tryd.ntmps98
 go_wp2_with fail
 refine (node_Of.calls wd x.f0 x.f1.f0 x.f1.f1 (nodeOf wd x) _ (node_Of_eq wd x)).mono ?_
 rintro e w1 ⟨rfl, hb⟩
 go_wp2
 go_ret
 exact ⟨rfl, (below_alloc (Below.refl _ _) _).trans (hb.mono (by simp))⟩
set_option maxRecDepth 100000 in
set_option maxHeartbeats 1000000 in
theorem all.calls (wd : Int) (A : Option Addr) (c : Nat) (l : List SNode) (w : World) (hr : Kd.C kNode w A l.length l) :
  Calls Tryd.prog 55 #[.int .i64 wd, .slice A l.length c] w fun e w' => e = .returned (.bool (decide (1 ≤ wd) && (decide (wd ≤ 32) && l.all (nodeOf wd)))) ∧ Below w.heap.size w w' := by
 have HR := aM' hr
 clear hr
 have e0 : (!l.any fun x => !nodeOf wd x) = l.all (nodeOf wd) := by rw [List.all_eq_not_any_not]
 go_enter Tryd.func55, Tryd.ntmps55
 by_cases h1 : 1 ≤ wd
 ·
  have b1 : decide (1 ≤ wd) = true := decide_eq_true h1
  by_cases h2 : wd ≤ 32
  ·
   have b2 : decide (wd ≤ 32) = true := decide_eq_true h2
   go_wp2_with fail
   have hcb : (w.alloc (.cells #[.int .i64 wd] 3)).heap[w.heap.size]? = some (.cells #[.int .i64 wd] 3 (0, 0)) := blk_new w _
   have hB0 : Below w.heap.size w (w.alloc (.cells #[.int .i64 wd] 3)) := below_alloc (Below.refl _ _) _
   refine (anyNode.calls 98 _ (fun x => !nodeOf wd x) A c l _ (Kd.C_below HR.out hB0) (fun _ _ => enters_of Tryd.func98 (by kernel_rfl) rfl _ _) (fun W x hW => all1.calls wd w.heap.size x W (blk_below hcb hW))).mono ?_
   rintro e w1 ⟨rfl, hb⟩
   have HB1 := aM' (hB0.trans (hb.mono hB0.size))
   clear hb hcb hB0
   go_wp2_with fail
   go_ret
   exact ⟨by simp only [b1, b2, Bool.true_and]; rw [← e0]; rfl, HB1.out⟩
  ·
   have b2 : decide (wd ≤ 32) = false := decide_eq_false h2
   go_wp2_with fail
   go_ret
   exact ⟨by simp [b2], below_alloc (Below.refl _ _) _⟩
 ·
  have b1 : decide (1 ≤ wd) = false := decide_eq_false h1
  go_wp2_with fail
  go_ret
  exact ⟨by simp [b1], below_alloc (Below.refl _ _) _⟩
end Go.Proofs.YtijfifphcchbbaaDoor.P
namespace Go.Proofs.YtijfifphcchbbaaDoor.P
open Go.RowKit Go.Proofs.YtijfifphcchbbaaDoorW.PrintWords Go.Proofs.YtijfifphcchbbaaDoorW.PrintLast Go.Proofs.YtijfifphcchbbaaDoorW.PrintMore
set_option linter.unusedVariables false
set_option linter.unusedSimpArgs false
set_option linter.unnecessarySimpa false
attribute [local go_sem] Oper.semAt_some
theorem turns.calls (p : Int) (A : Option Addr) (m c : Nat) (w : World) : Calls Tryd.prog 62 #[.int .u64 p, .slice A m c] w fun e w' => e = .returned (.func (.func 104) #[] #[.pointer (some ⟨w.heap.size + 1, 0, none⟩), .pointer (some ⟨w.heap.size, 0, none⟩)]) ∧ w' = (w.alloc (.cells #[.int .u64 p] 24)).alloc (.cells #[.slice A m c] 22) := by
 go_enter Tryd.func62, Tryd.ntmps62
 go_wp2
 go_ret
 exact ⟨rfl, rfl⟩
def stepI (w : Int) (n : SNode) (x : SNode × Bool) : ByteArray × Int × Int × Int := if x.2 then joinI w n x.1 else joinI w x.1 n
abbrev nodeJ (j : ByteArray × Int × Int × Int) : SNode := ⟨j.1, ⟨j.2.1, j.2.2.1⟩⟩
def climbL (w : Int) : SNode → List (SNode × Bool) → ByteArray × Int × Int × Int
 | n, [] => (n.f0, n.f1.f0, n.f1.f1, 0)
 | n, x :: xs => if (stepI w n x).2.2.2 = 0 then climbL w (nodeJ (stepI w n x)) xs else (⟨#[]⟩, 0, 0, (stepI w n x).2.2.2)
def climbI (w : Int) (n : SNode) (p : Int) (l : List SNode) : ByteArray × Int × Int × Int :=
 if nodeOf w n = true ∧ l.all (nodeOf w) = true then (if 63 < l.length then (⟨#[]⟩, 0, 0, 2) else climbL w n (turnsTo p l l.length)) else (⟨#[]⟩, 0, 0, 70)
def upTo (w : Int) : SNode → List (SNode × Bool) → Option SNode
 | n, [] => some n
 | n, x :: xs => if (stepI w n x).2.2.2 = 0 then upTo w (nodeJ (stepI w n x)) xs else none
theorem climbL_up (w : Int) (rest : List (SNode × Bool)) : ∀ (pre : List (SNode × Bool)) (n st : SNode), upTo w n pre = some st → climbL w n (pre ++ rest) = climbL w st rest
 | [], n, st, h => by cases h; rfl
 | x :: xs, n, st, h => by
  unfold upTo at h
  split at h
  ·
   rename_i h0
   show climbL w n (x :: (xs ++ rest)) = _
   unfold climbL
   rw [if_pos h0]
   have := climbL_up w rest xs _ st h
   rw [this]
   cases rest <;> rfl
  ·
   cases h
theorem upTo_snoc (w : Int) (x : SNode × Bool) : ∀ (pre : List (SNode × Bool)) (n st : SNode), upTo w n pre = some st → (stepI w st x).2.2.2 = 0 → upTo w n (pre ++ [x]) = some (nodeJ (stepI w st x))
 | [], n, st, h, h0 => by cases h; show upTo w n [x] = _; unfold upTo; rw [if_pos h0]; rfl
 | y :: ys, n, st, h, h0 => by
  unfold upTo at h
  split at h
  ·
   rename_i h1
   show upTo w n (y :: (ys ++ [x])) = _
   unfold upTo
   rw [if_pos h1]
   exact upTo_snoc w x ys _ st h h0
  ·
   cases h
theorem turnsTo_pre (p : Int) (l : List SNode) (k : Nat) : ∀ d, ∃ rest, turnsTo p l (k + d) = turnsTo p l k ++ rest
 | 0 => ⟨[], by simp⟩
 | d + 1 => by
  obtain ⟨r, hr⟩ := turnsTo_pre p l k d
  refine ⟨r ++ [(l.getD (k + d) ⟨ByteArray.empty, ⟨0, 0⟩⟩, rightS p (k + d))], ?_⟩
  rw [← List.append_assoc, ← hr]
  simp [turnsTo, ← Nat.add_assoc, List.range_succ]
theorem addI128_ok (a b c d : Int) (ha : 0 ≤ a) (hb : 0 ≤ b) (hc : 0 ≤ c) (hd : 0 ≤ d) : 0 ≤ (addI128 a b c d).1 ∧ (addI128 a b c d).1 < 18446744073709551616 ∧ 0 ≤ (addI128 a b c d).2.1 ∧ (addI128 a b c d).2.1 < 18446744073709551616 := by
 unfold addI128
 split
 ·
  refine ⟨?_, ?_, ?_, ?_⟩ <;> dsimp only <;> omega
 ·
  refine ⟨?_, ?_, ?_, ?_⟩ <;> dsimp only <;> omega
theorem joinI_ok (w : Int) (l r : SNode) (ul : OkU l.f1) (ur : OkU r.f1) : OkU (nodeJ (joinI w l r)).f1 := by
 have h := addI128_ok l.f1.f0 l.f1.f1 r.f1.f0 r.f1.f1 ul.h0.1 ul.h1.1 ur.h0.1 ur.h1.1
 unfold joinI
 split
 ·
  split
  ·
   exact ⟨⟨h.1, h.2.1⟩, ⟨h.2.2.1, h.2.2.2⟩⟩
  ·
   exact ⟨⟨by simp, by simp⟩, ⟨by simp, by simp⟩⟩
 ·
  exact ⟨⟨by simp, by simp⟩, ⟨by simp, by simp⟩⟩
abbrev nodeA (n : SNode) : Array Value := #[.string n.f0, .int .u64 n.f1.f0, .int .u64 n.f1.f1]
structure Clim (w : World) (wd : Int) (st r2 : SNode) (r3 : Int) (W : World) : Prop where
 h0 : W.heap[w.heap.size]? = some (.cells #[.int .i64 wd] 3 (0, 0))
 h1 : W.heap[w.heap.size + 1]? = some (.cells (nodeA st) 28 (0, 0))
 h2 : W.heap[w.heap.size + 1 + 1]? = some (.cells (nodeA r2) 28 (0, 0))
 h3 : W.heap[w.heap.size + 1 + 1 + 1]? = some (.cells #[.int .i64 r3] 29 (0, 0))
 hB : Below w.heap.size w W
theorem Clim.lt {w W : World} {wd r3 : Int} {st r2 : SNode} (h : Clim w wd st r2 r3 W) : w.heap.size + 1 + 1 + 1 < W.heap.size := blk_lt h.h3
theorem Clim.below {w W W' : World} {wd r3 : Int} {st r2 : SNode} (h : Clim w wd st r2 r3 W) (hb : Below W.heap.size W W') : Clim w wd st r2 r3 W' :=
 ⟨blk_below h.h0 hb, blk_below h.h1 hb, blk_below h.h2 hb, blk_below h.h3 hb, h.hB.trans (hb.mono h.hB.size)⟩
theorem Clim.own {w X Y : World} {wd r3 : Int} {st r2 : SNode} {B : Nat} {row : Option Nat} (h : Clim w wd st r2 r3 X) (hg : X.grownBy Y row) (hlt : w.heap.size + 1 + 1 + 1 < B) (hr : ∀ r, row = some r → B ≤ r) : Clim w wd st r2 r3 Y := by
 have hl := h.lt
 have hk : ∀ k, k ≤ w.heap.size + 1 + 1 + 1 → Y.heap[k]? = X.heap[k]? := fun k hk => hg.block k (by omega) (fun e => by have := hr k e.symm; omega)
 exact ⟨(hk _ (by omega)).trans h.h0, (hk _ (by omega)).trans h.h1, (hk _ (by omega)).trans h.h2, (hk _ (by omega)).trans h.h3, ⟨hg.os.trans h.hB.os, hg.tape.trans h.hB.tape, hg.output.trans h.hB.output, Nat.le_trans h.hB.size hg.size, fun i hi => (hk i (by omega)).trans (h.hB.block i hi)⟩⟩
theorem climb_results (tmps : Array Value) (W : World) (g2 g3 : Nat) (x y z e : Value) (h8 : tmps.getD 8 undef = .pointer (some ⟨g2, 0, none⟩)) (h9 : tmps.getD 9 undef = .pointer (some ⟨g3, 0, none⟩)) (hg2 : W.heap[g2]? = some (.cells #[x, y, z] 28 (0, 0))) (hg3 : W.heap[g3]? = some (.cells #[e] 29 (0, 0))) :
  (results Tryd.f19 tmps).run Tryd.prog W = .ok (.tuple #[.agg #[x, y, z], e]) W := by
 have h8' : tmps[8]?.getD undef = .pointer (some ⟨g2, 0, none⟩) := by simpa using h8
 have h9' : tmps[9]?.getD undef = .pointer (some ⟨g3, 0, none⟩) := by simpa using h9
 have hr : Tryd.f19.results = #[.cell 8 28, .cell 9 29] := rfl
 have hc : W.cell? ⟨g3, 0, none⟩ = some e := blk_cell hg3 0
 have h1 := run_loadVar_row W g2 28 28 #[x, y, z] (0, 0) _ hg2 Tryd.underlying28 rfl (by kernel_rfl)
 have hu := Tryd.underlying29
 have h2 : (loadVar 29 ⟨g3, 0, none⟩).run Tryd.prog W = .ok e W := by
  go_simp
 simp [results, hr, h8', h9', asAddr, h1, h2]
theorem Clim.put {w W : World} {wd r3 : Int} {st r2 : SNode} (h : Clim w wd st r2 r3 W) (x : SNode) (e : Int) :
  Clim w wd st x e ((((W.setCell ⟨w.heap.size + 1 + 1, 0, none⟩ (.string x.f0)).setCell ⟨w.heap.size + 1 + 1, 1, none⟩ (.int .u64 x.f1.f0)).setCell ⟨w.heap.size + 1 + 1, 2, none⟩ (.int .u64 x.f1.f1)).setCell ⟨w.heap.size + 1 + 1 + 1, 0, none⟩ (.int .i64 e)) := by
 have a1 := blk_put (cs' := nodeA ⟨x.f0, r2.f1⟩) h.h2 0 (.string x.f0) rfl
 have a2 := blk_put (cs' := nodeA ⟨x.f0, ⟨x.f1.f0, r2.f1.f1⟩⟩) a1 1 (.int .u64 x.f1.f0) rfl
 have a3 := blk_put (cs' := nodeA x) a2 2 (.int .u64 x.f1.f1) rfl
 exact ⟨blk_far (blk_far (blk_far (blk_far h.h0 (by (try dsimp only); omega) _) (by (try dsimp only); omega) _) (by (try dsimp only); omega) _) (by (try dsimp only); omega) _, blk_far (blk_far (blk_far (blk_far h.h1 (by (try dsimp only); omega) _) (by (try dsimp only); omega) _) (by (try dsimp only); omega) _) (by (try dsimp only); omega) _,
  blk_far a3 (by (try dsimp only); omega) _, blk_put (blk_far (blk_far (blk_far h.h3 (by (try dsimp only); omega) _) (by (try dsimp only); omega) _) (by (try dsimp only); omega) _) 0 (.int .i64 e) rfl,
  below_set (below_set (below_set (below_set h.hB (by (try dsimp only); omega)) (by (try dsimp only); omega)) (by (try dsimp only); omega)) (by (try dsimp only); omega)⟩
theorem Clim.step {w W : World} {wd r3 : Int} {st r2 : SNode} (h : Clim w wd st r2 r3 W) (x : SNode) :
  Clim w wd x r2 r3 (((W.setCell ⟨w.heap.size + 1, 0, none⟩ (.string x.f0)).setCell ⟨w.heap.size + 1, 1, none⟩ (.int .u64 x.f1.f0)).setCell ⟨w.heap.size + 1, 2, none⟩ (.int .u64 x.f1.f1)) := by
 have a1 := blk_put (cs' := nodeA ⟨x.f0, st.f1⟩) h.h1 0 (.string x.f0) rfl
 have a2 := blk_put (cs' := nodeA ⟨x.f0, ⟨x.f1.f0, st.f1.f1⟩⟩) a1 1 (.int .u64 x.f1.f0) rfl
 have a3 := blk_put (cs' := nodeA x) a2 2 (.int .u64 x.f1.f1) rfl
 exact ⟨blk_far (blk_far (blk_far h.h0 (by (try dsimp only); omega) _) (by (try dsimp only); omega) _) (by (try dsimp only); omega) _, a3, blk_far (blk_far (blk_far h.h2 (by (try dsimp only); omega) _) (by (try dsimp only); omega) _) (by (try dsimp only); omega) _, blk_far (blk_far (blk_far h.h3 (by (try dsimp only); omega) _) (by (try dsimp only); omega) _) (by (try dsimp only); omega) _,
  below_set (below_set (below_set h.hB (by (try dsimp only); omega)) (by (try dsimp only); omega)) (by (try dsimp only); omega)⟩
theorem climb_ret {w W : World} {wd r3 : Int} {st r2 : SNode} {tmps : Array Value} {R : Ending → World → Prop} (h : Clim w wd st r2 r3 W) (h8 : tmps.getD 8 undef = .pointer (some ⟨w.heap.size + 1 + 1, 0, none⟩)) (h9 : tmps.getD 9 undef = .pointer (some ⟨w.heap.size + 1 + 1 + 1, 0, none⟩))
  (hR : R (.returned (.tuple #[nodeV r2, .int .i64 r3])) W) : bodyPostM Fence.wide 3 Tryd.prog Tryd.f19 R .ret { tmps := tmps, defers := [] } W :=
 ⟨_, climb_results _ _ _ _ _ _ _ _ h8 h9 h.h2 h.h3, hR⟩
theorem blk_res {W : World} {B2 B3 D : Nat} {o : Obj} (h : W.heap[D]? = some o) (h2 : D ≠ B2) (h3 : D ≠ B3) (a b c d : Value) :
  ((((W.setCell ⟨B2, 0, none⟩ a).setCell ⟨B2, 1, none⟩ b).setCell ⟨B2, 2, none⟩ c).setCell ⟨B3, 0, none⟩ d).heap[D]? = some o := by
 rw [Below.heap_setCell _ _ _ _ h3, Below.heap_setCell _ _ _ _ h2, Below.heap_setCell _ _ _ _ h2, Below.heap_setCell _ _ _ _ h2]
 exact h
theorem climb_retD {w W : World} {wd r3 : Int} {st r2 : SNode} {tmps : Array Value} {R : Ending → World → Prop} {D : Nat} (h : Clim w wd st r2 r3 W) (hD : w.heap.size + 1 + 1 + 1 < D) (hdf : W.heap[D]? = some (.deferred (some []))) (h8 : tmps.getD 8 undef = .pointer (some ⟨w.heap.size + 1 + 1, 0, none⟩)) (h9 : tmps.getD 9 undef = .pointer (some ⟨w.heap.size + 1 + 1 + 1, 0, none⟩))
  (hR : ∀ W', Below w.heap.size w W' → R (.returned (.tuple #[nodeV r2, .int .i64 r3])) W') : bodyPostM Fence.wide 3 Tryd.prog Tryd.f19 R .ret { tmps := tmps, defers := [{ target := .collected D, args := #[] }] } W := by
 refine ⟨by simp, .inl ⟨_, _, rfl, run_takeDeferred hdf, ?_⟩⟩
 refine ⟨_, climb_results _ _ _ _ _ _ _ _ h8 h9 ((World.putObj_heap_other (by omega)).trans h.h2) ((World.putObj_heap_other (by omega)).trans h.h3), hR _ ?_⟩
 exact ⟨h.hB.os, h.hB.tape, h.hB.output, by simpa using h.hB.size, fun i hi => (World.putObj_heap_other (by omega)).trans (h.hB.block i hi)⟩
theorem put3 {W : World} {g : Nat} {z : SNode} (h : W.heap[g]? = some (.cells (nodeA z) 28 (0, 0))) (x : SNode) :
  (((W.setCell ⟨g, 0, none⟩ (.string x.f0)).setCell ⟨g, 1, none⟩ (.int .u64 x.f1.f0)).setCell ⟨g, 2, none⟩ (.int .u64 x.f1.f1)).heap[g]? = some (.cells (nodeA x) 28 (0, 0)) := by
 have a1 := blk_put (cs' := nodeA ⟨x.f0, z.f1⟩) h 0 (.string x.f0) rfl
 have a2 := blk_put (cs' := nodeA ⟨x.f0, ⟨x.f1.f0, z.f1.f1⟩⟩) a1 1 (.int .u64 x.f1.f0) rfl
 exact blk_put (cs' := nodeA x) a2 2 (.int .u64 x.f1.f1) rfl
theorem far3 {W : World} {g k : Nat} {o : Obj} (h : W.heap[k]? = some o) (hn : k ≠ g) (a b c : Value) : (((W.setCell ⟨g, 0, none⟩ a).setCell ⟨g, 1, none⟩ b).setCell ⟨g, 2, none⟩ c).heap[k]? = some o := by
 rw [Below.heap_setCell _ _ _ _ hn, Below.heap_setCell _ _ _ _ hn, Below.heap_setCell _ _ _ _ hn]
 exact h
theorem below3 {W V : World} (h : Below W.heap.size W V) {g : Nat} (hg : W.heap.size ≤ g) (a b c : Value) : Below W.heap.size W (((V.setCell ⟨g, 0, none⟩ a).setCell ⟨g, 1, none⟩ b).setCell ⟨g, 2, none⟩ c) :=
 below_set (below_set (below_set h hg) hg) hg
structure Two (W : World) (b12 b13 : Nat) (x s : SNode) (W' : World) : Prop where
 ne : b12 ≠ b13
 l12 : W.heap.size ≤ b12
 l13 : W.heap.size ≤ b13
 hB : Below W.heap.size W W'
 h12 : W'.heap[b12]? = some (.cells (nodeA x) 28 (0, 0))
 h13 : W'.heap[b13]? = some (.cells (nodeA s) 28 (0, 0))
theorem Two.put {W V : World} {b12 b13 : Nat} {x s : SNode} (h : Two W b12 b13 x s V) (x' s' : SNode) :
  Two W b12 b13 x' s' ((((((V.setCell ⟨b12, 0, none⟩ (.string x'.f0)).setCell ⟨b12, 1, none⟩ (.int .u64 x'.f1.f0)).setCell ⟨b12, 2, none⟩ (.int .u64 x'.f1.f1)).setCell ⟨b13, 0, none⟩ (.string s'.f0)).setCell ⟨b13, 1, none⟩ (.int .u64 s'.f1.f0)).setCell ⟨b13, 2, none⟩ (.int .u64 s'.f1.f1)) :=
 ⟨h.ne, h.l12, h.l13, below3 (below3 h.hB h.l12 _ _ _) h.l13 _ _ _, far3 (put3 h.h12 x') h.ne _ _ _, put3 (far3 h.h13 (Ne.symm h.ne) _ _ _) s'⟩
theorem climb_twoA (W : World) (x s : SNode) : Two W W.heap.size (W.heap.size + 1) x s ((W.alloc (.cells #[.string x.f0, .int .u64 x.f1.f0, .int .u64 x.f1.f1] 28)).alloc (.cells #[.string s.f0, .int .u64 s.f1.f0, .int .u64 s.f1.f1] 28)).drew := by
 have h0 := blk_drew (blk_alloc (blk_new W (.cells (nodeA x) 28)) (.cells (nodeA s) 28))
 have h1 := blk_new (W.alloc (.cells (nodeA x) 28)) (.cells (nodeA s) 28)
 rw [World.size_alloc] at h1
 exact ⟨by omega, by omega, by omega, below_drew (below_alloc (below_alloc (Below.refl _ _) _) _), h0, blk_drew h1⟩
theorem climb_twoB (W : World) (x s : SNode) : Two W (W.heap.size + 1) W.heap.size x s ((W.alloc (.cells #[.string s.f0, .int .u64 s.f1.f0, .int .u64 s.f1.f1] 28)).alloc (.cells #[.string x.f0, .int .u64 x.f1.f0, .int .u64 x.f1.f1] 28)).drew := by
 have h := climb_twoA W s x
 exact ⟨by omega, by omega, by omega, h.hB, h.h13, h.h12⟩
abbrev OkX := { x : SNode × Bool // OkU x.1.f1 }
def climbS (w2 : World) (A : Option Addr) (l : List SNode) (k : Nat) : Prop := k = w2.heap.size + 1 ∨ k = w2.heap.size ∨ (0 < l.length ∧ ∃ a, A = some a ∧ k = a.block)
theorem nodes_block {w : World} {a : Addr} {l : List SNode} (h : Kd.C kNode w (some a) l.length l) (h0 : 0 < l.length) : a.block < w.heap.size := by
 obtain ⟨ad, e, hx, -, -⟩ := at_TNode h 0 (by omega) (by omega)
 cases e
 have := bL' _ _ hx
 unfold Addr.add at this
 split at this <;> exact this
set_option maxRecDepth 100000 in
set_option maxHeartbeats 2000000 in
theorem climb.calls (wd : Int) (n : SNode) (p : Int) (A : Option Addr) (c : Nat) (l : List SNode) (w : World) (hK : Laid w) (hr : Kd.C kNode w A l.length l) (hp : 0 ≤ p) (un : OkU n.f1) (ul : ∀ x ∈ l, OkU x.f1) :
  Calls Tryd.prog 19 #[.int .i64 wd, nodeV n, .int .u64 p, .slice A l.length c] w fun e w' => e = .returned (.tuple #[nodeV (nodeJ (climbI wd n p l)), .int .i64 (climbI wd n p l).2.2.2]) ∧ Below w.heap.size w w' := by
 have HR := aM' hr
 have HK := aM' hK
 have UN := aM' un
 have UL := aM' ul
 clear hr hK un ul
 refine (callsIn_wide (n := 3)).1 ?_
 refine callsIn_of_wp_marks Tryd.func19 rfl trivial ?_ rfl
 simp only [Tryd.ntmps19, List.size_toArray, List.length_cons, List.length_nil, Nat.reduceAdd, Nat.reduceSub, Array.replicate_succ, Array.replicate_zero, List.push_toArray, List.append_toArray, List.nil_append, List.cons_append]
 gi_wp2_with fail
 refine ⟨trivial, ?_⟩
 refine (callsIn_wide.2 (node_Of.calls wd n.f0 n.f1.f0 n.f1.f1 (nodeOf wd n) _ (node_Of_eq wd n))).mono ?_
 rintro e w1 ⟨rfl, hb⟩
 have hB0 : Below w.heap.size w w1 := (below_alloc (below_alloc (below_alloc (below_alloc (Below.refl _ _) _) _) _) _).trans (hb.mono (by simp; omega))
 have hw0 : w1.heap[w.heap.size]? = some (.cells #[.int .i64 wd] 3 (0, 0)) := blk_below (blk_alloc (blk_alloc (blk_alloc (blk_new w _) _) _) _) hb
 have hw1 : w1.heap[w.heap.size + 1]? = some (.cells #[.string n.f0, .int .u64 n.f1.f0, .int .u64 n.f1.f1] 28 (0, 0)) := by
  refine blk_below (blk_alloc (blk_alloc ?_ _) _) hb
  have := blk_new (w.alloc (.cells #[.int .i64 wd] 3)) (.cells #[.string n.f0, .int .u64 n.f1.f0, .int .u64 n.f1.f1] 28)
  rwa [World.size_alloc] at this
 have hw2 : w1.heap[w.heap.size + 1 + 1]? = some (.cells #[.string ⟨#[]⟩, .int .u64 0, .int .u64 0] 28 (0, 0)) := by
  refine blk_below (blk_alloc ?_ _) hb
  have := blk_new ((w.alloc (.cells #[.int .i64 wd] 3)).alloc (.cells #[.string n.f0, .int .u64 n.f1.f0, .int .u64 n.f1.f1] 28)) (.cells #[.string ⟨#[]⟩, .int .u64 0, .int .u64 0] 28)
  rwa [World.size_alloc, World.size_alloc] at this
 have hw3 : w1.heap[w.heap.size + 1 + 1 + 1]? = some (.cells #[.int .i64 0] 29 (0, 0)) := by
  refine blk_below ?_ hb
  have := blk_new (((w.alloc (.cells #[.int .i64 wd] 3)).alloc (.cells #[.string n.f0, .int .u64 n.f1.f0, .int .u64 n.f1.f1] 28)).alloc (.cells #[.string ⟨#[]⟩, .int .u64 0, .int .u64 0] 28)) (.cells #[.int .i64 0] 29)
  rwa [World.size_alloc, World.size_alloc, World.size_alloc] at this
 have hC : Clim w wd n ⟨⟨#[]⟩, ⟨0, 0⟩⟩ 0 w1 := ⟨hw0, hw1, hw2, hw3, hB0⟩
 have HC := aM' hC
 have c0 : w1.cell? ⟨w.heap.size, 0, none⟩ = some (.int .i64 wd) := blk_cell hw0 0
 have cr0 : w1.cell? ⟨w.heap.size + 1 + 1, 0, none⟩ = some (.string ⟨#[]⟩) := blk_cell hw2 0
 have cr1 : w1.cell? ⟨w.heap.size + 1 + 1, 1, none⟩ = some (.int .u64 0) := blk_cell hw2 1
 have cr2 : w1.cell? ⟨w.heap.size + 1 + 1, 2, none⟩ = some (.int .u64 0) := blk_cell hw2 2
 have fr : ∀ i, w1.frozen? ⟨w.heap.size + 1 + 1, i, none⟩ = false := fun i => blk_frozen hw2 i
 have ce : w1.cell? ⟨w.heap.size + 1 + 1 + 1, 0, none⟩ = some (.int .i64 0) := blk_cell hw3 0
 have fe : ∀ i, w1.frozen? ⟨w.heap.size + 1 + 1 + 1, i, none⟩ = false := fun i => blk_frozen hw3 i
 clear hb hB0 hw0 hw1 hw2 hw3 hC
 cases hof : nodeOf wd n with
 | false =>
  have HI := aM' (show climbI wd n p l = (⟨#[]⟩, 0, 0, 70) by unfold climbI; rw [if_neg (by rw [hof]; simp)])
  gi_wp2_with (refine ⟨trivial, ?_⟩)
  rw [HI.out]
  exact climb_ret (HC.out.put ⟨⟨#[]⟩, ⟨0, 0⟩⟩ 70) rfl rfl ⟨rfl, (HC.out.put ⟨⟨#[]⟩, ⟨0, 0⟩⟩ 70).hB⟩
 | true =>
  gi_wp2_with fail
  refine ⟨trivial, ?_⟩
  refine (callsIn_wide.2 (all.calls wd A c l _ (Kd.C_below HR.out HC.out.hB))).mono ?_
  rintro e w2 ⟨rfl, hb⟩
  have h1 : (decide (1 ≤ wd) && (decide (wd ≤ 32) && l.all (nodeOf wd))) = l.all (nodeOf wd) := by
   obtain ⟨h1, h2, _⟩ := nodeOf_w hof
   simp [h1, h2]
  rw [h1]
  have hC2 := HC.out.below hb
  clear HC c0 cr0 cr1 cr2 fr ce fe h1 hb
  have HC := aM' hC2
  have cr0 : w2.cell? ⟨w.heap.size + 1 + 1, 0, none⟩ = some (.string ⟨#[]⟩) := blk_cell hC2.h2 0
  have cr1 : w2.cell? ⟨w.heap.size + 1 + 1, 1, none⟩ = some (.int .u64 0) := blk_cell hC2.h2 1
  have cr2 : w2.cell? ⟨w.heap.size + 1 + 1, 2, none⟩ = some (.int .u64 0) := blk_cell hC2.h2 2
  have fr : ∀ i, w2.frozen? ⟨w.heap.size + 1 + 1, i, none⟩ = false := fun i => blk_frozen hC2.h2 i
  have ce : w2.cell? ⟨w.heap.size + 1 + 1 + 1, 0, none⟩ = some (.int .i64 0) := blk_cell hC2.h3 0
  have fe : ∀ i, w2.frozen? ⟨w.heap.size + 1 + 1 + 1, i, none⟩ = false := fun i => blk_frozen hC2.h3 i
  clear hC2
  cases hal : l.all (nodeOf wd) with
  | false =>
   have HI := aM' (show climbI wd n p l = (⟨#[]⟩, 0, 0, 70) by unfold climbI; rw [if_neg (by rw [hal]; simp)])
   gi_wp2_with (refine ⟨trivial, ?_⟩)
   rw [HI.out]
   exact climb_ret (HC.out.put ⟨⟨#[]⟩, ⟨0, 0⟩⟩ 70) rfl rfl ⟨rfl, (HC.out.put ⟨⟨#[]⟩, ⟨0, 0⟩⟩ 70).hB⟩
  | true =>
   by_cases h63 : 63 < l.length
   ·
    have b1 : decide (63 < (l.length : Int)) = true := decide_eq_true (by omega)
    have HI := aM' (show climbI wd n p l = (⟨#[]⟩, 0, 0, 2) by unfold climbI; rw [if_pos ⟨hof, hal⟩, if_pos h63])
    gi_wp2_with (refine ⟨trivial, ?_⟩)
    rw [HI.out]
    exact climb_ret (HC.out.put ⟨⟨#[]⟩, ⟨0, 0⟩⟩ 2) rfl rfl ⟨rfl, (HC.out.put ⟨⟨#[]⟩, ⟨0, 0⟩⟩ 2).hB⟩
   ·
    have b1 : decide (63 < (l.length : Int)) = false := decide_eq_false (by omega)
    have HI := aM' (show climbI wd n p l = climbL wd n (turnsTo p l l.length) by unfold climbI; rw [if_pos ⟨hof, hal⟩, if_neg h63])
    gi_wp2_with fail
    refine ⟨trivial, ?_⟩
    refine (callsIn_wide.2 (turns.calls p A l.length c w2)).mono ?_
    rintro e w3 ⟨rfl, hw3⟩
    clear cr0 cr1 cr2 fr ce fe b1
    have hP : w3.heap[w2.heap.size]? = some (.cells #[.int .u64 p] 24 (0, 0)) := by rw [hw3]; exact blk_alloc (blk_new w2 _) _
    have hS : w3.heap[w2.heap.size + 1]? = some (.cells #[.slice A l.length c] 22 (0, 0)) := by
     rw [hw3]
     have := blk_new (w2.alloc (.cells #[.int .u64 p] 24)) (.cells #[.slice A l.length c] 22)
     rwa [World.size_alloc] at this
    have hC3 : Clim w wd n ⟨⟨#[]⟩, ⟨0, 0⟩⟩ 0 w3 := by rw [hw3]; exact HC.out.below (below_alloc (below_alloc (Below.refl _ _) _) _)
    have hz3 : w3.heap.size = w2.heap.size + 2 := by rw [hw3]; simp
    have hlt2 := HC.out.lt
    have HP := aM' hP
    have HS := aM' hS
    have HC3 := aM' hC3
    have HZ := aM' hz3
    have HL := aM' hlt2
    have HH := aM' h63
    clear hw3 hP hS hC3 hz3 hlt2 HC h63
    have HLT : ∀ k, climbS w2 A l k → k < w3.heap.size := by
     rintro k (rfl | rfl | ⟨h0, a, rfl, rfl⟩)
     ·
      rw [HZ.out]; omega
     ·
      rw [HZ.out]; omega
     ·
      exact lL' (nodes_block HR.out h0) HC3.out.hB.size
    have HFAR : ∀ k, climbS w2 A l k → k ≠ w.heap.size + 1 := by
     rintro k (rfl | rfl | ⟨h0, a, rfl, rfl⟩)
     ·
      have := HL.out; omega
     ·
      have := HL.out; omega
     ·
      have := nodes_block HR.out h0; omega
    have HLT := aM' HLT
    have HFAR := aM' HFAR
    gi_wp2_with fail
    refine wpIn_rangeFunc_ownH (α := OkX) (n := 3) rfl (by omega) (gf := 104) (lb := #[.pointer (some ⟨w2.heap.size + 1, 0, none⟩), .pointer (some ⟨w2.heap.size, 0, none⟩)]) rfl trivial (enters_of Tryd.func104 (by kernel_rfl) rfl) (encs := fun x => turnV x.1) (Kp := KeepS (climbS w2 A l))
     (S := fun xs => xs.map Subtype.val = turnsTo p l l.length) (Sp := fun pre => ∃ k, k ≤ l.length ∧ pre.map Subtype.val = turnsTo p l k) (N := l.length) (w0 := w3) ?hseq (fun h k => KeepS.trans h k) ?hKb (Below.refl _ _) (fun _ => rfl)
     (fun pre W => ∃ st, upTo wd n (pre.map Subtype.val) = some st ∧ OkU st.f1 ∧ Clim w wd st ⟨⟨#[]⟩, ⟨0, 0⟩⟩ 0 W ∧ w3.heap.size ≤ W.heap.size)
     (fun c pre W => c = .ret ∧ ∃ pre0 x st st', pre.map Subtype.val = pre0 ++ [x] ∧ upTo wd n pre0 = some st ∧ (stepI wd st x).2.2.2 ≠ 0 ∧ Clim w wd st' ⟨⟨#[]⟩, ⟨0, 0⟩⟩ (stepI wd st x).2.2.2 W)
     ?hI ?hIx ⟨n, rfl, UN.out, HC3.out, Nat.le_refl _⟩
     (fun x a' W => ∃ bx, w3.heap.size ≤ bx ∧ W.heap[bx]? = some (.cells (nodeA x.1.1) 28 (0, 0)) ∧ a' = ({ tmps := #[.int .i64 wd, nodeV n, .int .u64 p, .slice A l.length c, .pointer (some ⟨w.heap.size, 0, none⟩), .pointer (some ⟨w.heap.size + 1, 0, none⟩), undef, undef, .pointer (some ⟨w.heap.size + 1 + 1, 0, none⟩), .pointer (some ⟨w.heap.size + 1 + 1 + 1, 0, none⟩), .pointer (some ⟨bx, 0, none⟩), .bool x.1.2, undef, undef, undef, undef, .bool false, .int .i64 wd, .agg #[.string n.f0, .int .u64 n.f1.f0, .int .u64 n.f1.f1], .bool true, .bool false, .bool false, .int .i64 wd, .slice A l.length c, .bool true, .bool false, .bool false, undef, .bool false, .slice A l.length c, .int .i64 (l.length : Int), .bool false, undef, .int .u64 p, .slice A l.length c, .func (.func 104) #[] #[.pointer (some ⟨w2.heap.size + 1, 0, none⟩), .pointer (some ⟨w2.heap.size, 0, none⟩)], nodeV x.1.1, .bool x.1.2, undef, undef, undef, undef, undef, undef, undef, undef, undef, undef, undef, undef, undef, undef, undef, undef, undef, undef], defers := [] } : Act)) ?hAx ?assign ?body ?done ?stop
    case hKb =>
     intro W l2 o o' hl2 ho hc hw k hk
     have := HLT.out k hk
     exact World.putObj_heap_other (by omega)
    case hI =>
     rintro s X Y row ⟨st, h1, h2, h3, h4⟩ hg hr
     exact ⟨st, h1, h2, h3.own hg (by rw [HZ.out]; have := HL.out; omega) (fun r e => (hr r e).1), Nat.le_trans h4 hg.size⟩
    case hIx =>
     rintro c2 s X Y row ⟨rfl, pre0, x, st, st', h1, h2, h3, h4⟩ hg hr
     exact ⟨rfl, pre0, x, st, st', h1, h2, h3, h4.own hg (by rw [HZ.out]; have := HL.out; omega) (fun r e => (hr r e).1)⟩
    case hAx =>
     rintro x a' s X Y row ⟨bx, h1, h2, h3⟩ hg hr
     refine ⟨bx, h1, (hg.block bx (blk_lt h2) (fun e => ?_)).trans h2, h3⟩
     obtain ⟨-, o, ho, hc⟩ := hr bx e.symm
     rw [h2] at ho; cases ho; cases hc
    case hseq =>
     intro l2 J Jx W hW hJ hJx hY h0
     refine (turns1_in Fence.wide 2 trivial rfl (by omega) l2 (w2.heap.size + 1) w2.heap.size W.heap.size p hp A c l (by have := HH.out; omega) (climbS w2 A l) (.inl rfl) (.inr (.inl rfl)) (fun h0 a ha => .inr (.inr ⟨h0, a, ha, rfl⟩)) (fun x => OkU x.f1) UL.out
      (fun pre W => ∃ pre' : List OkX, pre'.map Subtype.val = pre ∧ J pre' W) (fun pre W => ∃ pre' : List OkX, pre'.map Subtype.val = pre ∧ Jx pre' W)
      (fun s X Y row ⟨pre', e, h⟩ hg hr => ⟨pre', e, hJ _ _ _ row h hg hr⟩) ?_ W (blk_below HS.out hW) (blk_below HP.out hW) (Kd.C_below HR.out (HC3.out.hB.trans (hW.mono HC3.out.hB.size))) (fun k hk => lL' (HLT.out k hk) hW.size) ⟨[], rfl, h0⟩).mono ?_
     ·
      rintro pre x W1 hok ⟨pre', rfl, hj⟩ hlen
      obtain ⟨fn, tmps, asg, bd, hy, hR⟩ := hY pre' ⟨x, hok⟩ W1 hj (by simpa using hlen)
      refine ⟨fn, tmps, asg, bd, hy, hR.mono ?_⟩
      rintro e W2 (⟨rfl, h1, h2⟩ | ⟨rfl, h1⟩)
      ·
       exact .inl ⟨rfl, ⟨_, by simp, h1⟩, h2⟩
      ·
       exact .inr ⟨rfl, ⟨_, by simp, h1⟩⟩
     ·
      rintro e W2 ⟨hv, ⟨ys, rfl, ys', e1, h1⟩ | ⟨pre, ⟨k, hk, rfl⟩, pre', e1, h1⟩⟩
      ·
       exact ⟨hv, .inl ⟨ys', e1, h1⟩⟩
      ·
       exact ⟨hv, .inr ⟨pre', ⟨k, hk, e1⟩, h1⟩⟩
    case assign =>
     rintro l2 pre x W K ⟨st, hu, hok, hC, hz⟩ hK
     gi_wp2
     have hg := World.grownBy_alloc W (.cells (nodeA x.1.1) 28) none
     refine hK _ _ (KeepsFrom.of_grownBy hg (fun j e => by cases e)) (fun k hk => hg.block k (lL' (HLT.out k hk) hz) (by simp)) ⟨st, hu, hok, hC.below (below_alloc (Below.refl _ _) _), by simp; omega⟩ ⟨W.heap.size, hz, blk_new W _, rfl⟩
    case body =>
     rintro l2 pre x a' W hl2 - ⟨st, hu, hok, hC, hz⟩ ⟨bx, hbx, hb, rfl⟩ hlen
     obtain ⟨B1, hB1⟩ : ∃ B1, w.heap.size + 1 = B1 := ⟨_, rfl⟩
     have cn0 : W.cell? ⟨B1, 0, none⟩ = some (.string st.f0) := by rw [← hB1]; exact blk_cell hC.h1 0
     have cn1 : W.cell? ⟨B1, 1, none⟩ = some (.int .u64 st.f1.f0) := by rw [← hB1]; exact blk_cell hC.h1 1
     have cn2 : W.cell? ⟨B1, 2, none⟩ = some (.int .u64 st.f1.f1) := by rw [← hB1]; exact blk_cell hC.h1 2
     have cs0 : W.cell? ⟨bx, 0, none⟩ = some (.string x.1.1.f0) := blk_cell hb 0
     have cs1 : W.cell? ⟨bx, 1, none⟩ = some (.int .u64 x.1.1.f1.f0) := blk_cell hb 1
     have cs2 : W.cell? ⟨bx, 2, none⟩ = some (.int .u64 x.1.1.f1.f1) := blk_cell hb 2
     have hlb : bx < W.heap.size := blk_lt hb
     have hlw : B1 < W.heap.size := by rw [← hB1]; exact blk_lt hC.h1
     have q1 : bx ≠ W.heap.size := by omega
     have q2 : bx ≠ W.heap.size + 1 := by omega
     have q3 : B1 ≠ W.heap.size := by omega
     have q4 : B1 ≠ W.heap.size + 1 := by omega
     have HU := aM' hu
     have HOK := aM' hok
     have HC := aM' hC
     have HZZ := aM' hz
     have HBX := aM' hbx
     have HBC := aM' hb
     have HB1 := aM' hB1
     clear hu hok hC hz hbx hb hlen
     rw [hB1]
     clear hB1
     gi_upto_region 8 with (fail)
     refine wpIn_mono (Q := fun e a' W' => e = .normal ∧ ∃ b12 b13, a' = ({ tmps := #[.int .i64 wd, nodeV n, .int .u64 p, .slice A l.length c, .pointer (some ⟨w.heap.size, 0, none⟩), .pointer (some ⟨B1, 0, none⟩), undef, undef, .pointer (some ⟨B1 + 1, 0, none⟩), .pointer (some ⟨B1 + 1 + 1, 0, none⟩), .pointer (some ⟨bx, 0, none⟩), .bool x.1.2, .pointer (some ⟨b12, 0, none⟩), .pointer (some ⟨b13, 0, none⟩), undef, undef, .bool false, .int .i64 wd, .agg #[.string n.f0, .int .u64 n.f1.f0, .int .u64 n.f1.f1], .bool true, .bool false, .bool false, .int .i64 wd, .slice A l.length c, .bool true, .bool false, .bool false, undef, .bool false, .slice A l.length c, .int .i64 (l.length : Int), .bool false, undef, .int .u64 p, .slice A l.length c, .func (.func 104) #[] #[.pointer (some ⟨w2.heap.size + 1, 0, none⟩), .pointer (some ⟨w2.heap.size, 0, none⟩)], nodeV x.1.1, .bool x.1.2, .agg #[.string x.1.1.f0, .int .u64 x.1.1.f1.f0, .int .u64 x.1.1.f1.f1], .agg #[.string st.f0, .int .u64 st.f1.f0, .int .u64 st.f1.f1], undef, undef, undef, undef, undef, undef, undef, undef, undef, undef, undef, undef, undef, undef, undef, undef], defers := [] } : Act) ∧ Two W b12 b13 x.1.1 st W') ?r8 ?k8
     case r8 =>
      clear HU HOK HC HZZ HBX HBC HI HR HK UN UL HP HS HC3 HZ HL HH HLT HFAR
      gi_region_with (fail)
      all_goals
       refine ⟨rfl, _, _, rfl, ?_⟩
       with_reducible first | exact climb_twoA W x.1.1 st | exact climb_twoB W x.1.1 st
     case k8 =>
      clear cn0 cn1 cn2 cs0 cs1 cs2 hlb hlw q1 q2 q3 q4
      rintro e a' W' ⟨rfl, b12, b13, rfl, hT⟩
      obtain ⟨⟨sd, right⟩, hx⟩ := x
      have HT := aM' hT
      have HX := aM' hx
      clear hT
      dsimp only
      cases right with
      | false =>
       have hC5 := HC.out.below HT.out.hB
       have HC5 := aM' hC5
       have g0 : W'.cell? ⟨w.heap.size, 0, none⟩ = some (.int .i64 wd) := blk_cell hC5.h0 0
       have g1 : W'.cell? ⟨b12, 0, none⟩ = some (.string sd.f0) := blk_cell HT.out.h12 0
       have g2 : W'.cell? ⟨b12, 1, none⟩ = some (.int .u64 sd.f1.f0) := blk_cell HT.out.h12 1
       have g3 : W'.cell? ⟨b12, 2, none⟩ = some (.int .u64 sd.f1.f1) := blk_cell HT.out.h12 2
       have g4 : W'.cell? ⟨b13, 0, none⟩ = some (.string st.f0) := blk_cell HT.out.h13 0
       have g5 : W'.cell? ⟨b13, 1, none⟩ = some (.int .u64 st.f1.f0) := blk_cell HT.out.h13 1
       have g6 : W'.cell? ⟨b13, 2, none⟩ = some (.int .u64 st.f1.f1) := blk_cell HT.out.h13 2
       clear hC5
       rcases hj : joinI wd sd st with ⟨r1, r2, r3, r4⟩
       have hs : stepI wd st (sd, false) = (r1, r2, r3, r4) := hj
       have hok2 := joinI_ok wd sd st hx HOK.out
       obtain ⟨kk, hkk⟩ := (join_ev wd sd st hx HOK.out)
       have HJ := aM' (hkk kk (Nat.le_refl _))
       have HS2 := aM' hs
       rw [hj] at HJ hok2
       have HOK2 := aM' hok2
       clear hkk hj hs hok2
       gi_wp2_with fail
       refine ⟨trivial, ?_⟩
       refine (CallsIn.inRound l2 (callsIn_wide.2 (node_Join.calls kk wd sd.f0 sd.f1.f0 sd.f1.f1 st.f0 st.f1.f0 st.f1.f1 r1 r2 r3 r4 _ (HK.out.below HC5.out.hB) HJ.out))).mono ?_
       rintro e w5 ⟨rfl, hb5⟩
       clear g0 g1 g2 g3 g4 g5 g6
       have HB5 := aM' hb5
       have hC6 := HC5.out.below hb5
       have HC6 := aM' hC6
       have hlz := hC6.lt
       have q3 : B1 ≠ w5.heap.size := by have := HB1.out; omega
       have q4 : B1 + 1 ≠ w5.heap.size := by have := HB1.out; omega
       have q5 : B1 + 1 + 1 ≠ w5.heap.size := by have := HB1.out; omega
       have z3 : B1 < w5.heap.size := by have := HB1.out; omega
       have z4 : B1 + 1 < w5.heap.size := by have := HB1.out; omega
       have z5 : B1 + 1 + 1 < w5.heap.size := by have := HB1.out; omega
       have hw3 : B1 + 1 + 1 < w3.heap.size := by have := HB1.out; have := HC3.out.lt; omega
       have HW3 := aM' hw3
       clear hb5 hlz hw3
       by_cases h0 : r4 = 0
       ·
        subst h0
        have cn0 : w5.cell? ⟨B1, 0, none⟩ = some (.string st.f0) := by rw [← HB1.out]; exact blk_cell hC6.h1 0
        have cn1 : w5.cell? ⟨B1, 1, none⟩ = some (.int .u64 st.f1.f0) := by rw [← HB1.out]; exact blk_cell hC6.h1 1
        have cn2 : w5.cell? ⟨B1, 2, none⟩ = some (.int .u64 st.f1.f1) := by rw [← HB1.out]; exact blk_cell hC6.h1 2
        have fn : ∀ i, w5.frozen? ⟨B1, i, none⟩ = false := fun i => by rw [← HB1.out]; exact blk_frozen hC6.h1 i
        clear hC6
        gi_wp2
        have hend := bar_alloc (bar_set (bar_set (bar_set (bar_step (bar_below HT.out.hB B1) HB5.out) (a := ⟨B1, 0, none⟩) (v := .string r1) (.inl rfl)) (a := ⟨B1, 1, none⟩) (v := .int .u64 r2) (.inl rfl)) (a := ⟨B1, 2, none⟩) (v := .int .u64 r3) (.inl rfl)) (.cells #[.string r1, .int .u64 r2, .int .u64 r3] 28)
        change KeepsFrom _ W _ ∧ _ ∧ _
        refine ⟨KeepsFrom.of_grownBy hend (fun j e => by have := Option.some.inj e; have := HW3.out; omega), fun k hk => hend.block k (lL' (HLT.out k hk) HZZ.out) (fun e => HFAR.out k hk (by have := Option.some.inj e; have := HB1.out; omega)), nodeJ (r1, r2, r3, 0), ?_, HOK2.out, ?_, Nat.le_trans HZZ.out hend.size⟩
        ·
         have := upTo_snoc wd (sd, false) _ _ _ HU.out (by rw [HS2.out])
         rw [HS2.out] at this
         rw [List.map_append]
         exact this
        ·
         have := (HC6.out.step (nodeJ (r1, r2, r3, 0))).below (below_alloc (Below.refl _ _) (.cells #[.string r1, .int .u64 r2, .int .u64 r3] 28))
         rw [HB1.out] at this
         exact this
       ·
        have b1 : (r4 != 0) = true := by simp [h0]
        have cr0 : w5.cell? ⟨B1 + 1, 0, none⟩ = some (.string ⟨#[]⟩) := by rw [← HB1.out]; exact blk_cell hC6.h2 0
        have cr1 : w5.cell? ⟨B1 + 1, 1, none⟩ = some (.int .u64 0) := by rw [← HB1.out]; exact blk_cell hC6.h2 1
        have cr2 : w5.cell? ⟨B1 + 1, 2, none⟩ = some (.int .u64 0) := by rw [← HB1.out]; exact blk_cell hC6.h2 2
        have fr : ∀ i, w5.frozen? ⟨B1 + 1, i, none⟩ = false := fun i => by rw [← HB1.out]; exact blk_frozen hC6.h2 i
        have ce : w5.cell? ⟨B1 + 1 + 1, 0, none⟩ = some (.int .i64 0) := by rw [← HB1.out]; exact blk_cell hC6.h3 0
        have fe : ∀ i, w5.frozen? ⟨B1 + 1 + 1, i, none⟩ = false := fun i => by rw [← HB1.out]; exact blk_frozen hC6.h3 i
        clear hC6
        gi_wp2
        have hend := bar_set (bar_set (bar_set (bar_step (bar_below HT.out.hB (B1 + 1)) HB5.out) (a := ⟨B1 + 1, 0, none⟩) (v := .string ⟨#[]⟩) (.inl rfl)) (a := ⟨B1 + 1, 1, none⟩) (v := .int .u64 0) (.inl rfl)) (a := ⟨B1 + 1, 2, none⟩) (v := .int .u64 0) (.inl rfl)
        change KeepsFrom _ W _ ∧ _
        refine ⟨(KeepsFrom.of_grownBy hend (fun j e => by have := Option.some.inj e; have := HW3.out; omega)).trans ((KeepsFrom.of_grownBy (grownBy_setCell' _ (B1 + 1 + 1) (.int .i64 r4)) (fun j e => by have := Option.some.inj e; have := HW3.out; omega)).trans (KeepsFrom.of_grownBy (World.grownBy_alloc _ (.cells #[.string r1, .int .u64 r2, .int .u64 r3] 28) none) (fun j e => by cases e))), rfl, pre.map Subtype.val, (sd, false), st, st, by simp, HU.out, by rw [HS2.out]; exact h0, ?_⟩
        rw [HS2.out]
        have := (HC6.out.put ⟨⟨#[]⟩, ⟨0, 0⟩⟩ r4).below (below_alloc (Below.refl _ _) (.cells #[.string r1, .int .u64 r2, .int .u64 r3] 28))
        rw [HB1.out] at this
        exact this
      | true =>
       have hC5 := HC.out.below HT.out.hB
       have hbx2 : W'.heap[bx]? = some (.cells (nodeA sd) 28 (0, 0)) := blk_below HBC.out HT.out.hB
       have g1 : W'.cell? ⟨b12, 0, none⟩ = some (.string sd.f0) := blk_cell HT.out.h12 0
       have g2 : W'.cell? ⟨b12, 1, none⟩ = some (.int .u64 sd.f1.f0) := blk_cell HT.out.h12 1
       have g3 : W'.cell? ⟨b12, 2, none⟩ = some (.int .u64 sd.f1.f1) := blk_cell HT.out.h12 2
       have g4 : W'.cell? ⟨b13, 0, none⟩ = some (.string st.f0) := blk_cell HT.out.h13 0
       have g5 : W'.cell? ⟨b13, 1, none⟩ = some (.int .u64 st.f1.f0) := blk_cell HT.out.h13 1
       have g6 : W'.cell? ⟨b13, 2, none⟩ = some (.int .u64 st.f1.f1) := blk_cell HT.out.h13 2
       have f12 : ∀ i, W'.frozen? ⟨b12, i, none⟩ = false := fun i => blk_frozen HT.out.h12 i
       have f13 : ∀ i, W'.frozen? ⟨b13, i, none⟩ = false := fun i => blk_frozen HT.out.h13 i
       have n0 : W'.cell? ⟨B1, 0, none⟩ = some (.string st.f0) := by rw [← HB1.out]; exact blk_cell hC5.h1 0
       have n1 : W'.cell? ⟨B1, 1, none⟩ = some (.int .u64 st.f1.f0) := by rw [← HB1.out]; exact blk_cell hC5.h1 1
       have n2 : W'.cell? ⟨B1, 2, none⟩ = some (.int .u64 st.f1.f1) := by rw [← HB1.out]; exact blk_cell hC5.h1 2
       have s0 : W'.cell? ⟨bx, 0, none⟩ = some (.string sd.f0) := blk_cell hbx2 0
       have s1 : W'.cell? ⟨bx, 1, none⟩ = some (.int .u64 sd.f1.f0) := blk_cell hbx2 1
       have s2 : W'.cell? ⟨bx, 2, none⟩ = some (.int .u64 sd.f1.f1) := blk_cell hbx2 2
       have hlb : bx < W.heap.size := blk_lt HBC.out
       have hlw : B1 < W.heap.size := by rw [← HB1.out]; exact blk_lt HC.out.h1
       have u1 : bx ≠ b12 := by have := HT.out.l12; omega
       have u2 : bx ≠ b13 := by have := HT.out.l13; omega
       have u3 : B1 ≠ b12 := by have := HT.out.l12; omega
       have u4 : B1 ≠ b13 := by have := HT.out.l13; omega
       have u5 : b12 ≠ b13 := HT.out.ne
       have u6 : b13 ≠ b12 := Ne.symm HT.out.ne
       clear hC5 hbx2 hlb hlw
       gi_upto_region 10 with (fail)
       refine wpIn_mono (Q := fun e a' V => e = .normal ∧ a' = ({ tmps := #[.int .i64 wd, nodeV n, .int .u64 p, .slice A l.length c, .pointer (some ⟨w.heap.size, 0, none⟩), .pointer (some ⟨B1, 0, none⟩), undef, undef, .pointer (some ⟨B1 + 1, 0, none⟩), .pointer (some ⟨B1 + 1 + 1, 0, none⟩), .pointer (some ⟨bx, 0, none⟩), .bool true, .pointer (some ⟨b12, 0, none⟩), .pointer (some ⟨b13, 0, none⟩), undef, undef, .bool false, .int .i64 wd, .agg #[.string n.f0, .int .u64 n.f1.f0, .int .u64 n.f1.f1], .bool true, .bool false, .bool false, .int .i64 wd, .slice A l.length c, .bool true, .bool false, .bool false, undef, .bool false, .slice A l.length c, .int .i64 (l.length : Int), .bool false, undef, .int .u64 p, .slice A l.length c, .func (.func 104) #[] #[.pointer (some ⟨w2.heap.size + 1, 0, none⟩), .pointer (some ⟨w2.heap.size, 0, none⟩)], nodeV sd, .bool true, .agg #[.string sd.f0, .int .u64 sd.f1.f0, .int .u64 sd.f1.f1], .agg #[.string st.f0, .int .u64 st.f1.f0, .int .u64 st.f1.f1], .bool true, .agg #[.string st.f0, .int .u64 st.f1.f0, .int .u64 st.f1.f1], .agg #[.string sd.f0, .int .u64 sd.f1.f0, .int .u64 sd.f1.f1], undef, undef, undef, undef, undef, undef, undef, undef, undef, undef, undef, undef, undef], defers := [] } : Act) ∧ Two W b12 b13 st sd V) ?r10 ?k10
       case r10 =>
        clear HU HOK HC HZZ HBX HBC HI HR HK UN UL HP HS HC3 HZ HL HH HLT HFAR HB1
        gi_region_with (fail)
        all_goals
         refine ⟨rfl, rfl, ?_⟩
         have h2 := HT.out.put st sd
         with_reducible exact ⟨h2.ne, h2.l12, h2.l13, below_drew h2.hB, blk_drew h2.h12, blk_drew h2.h13⟩
       case k10 =>
       clear g1 g2 g3 g4 g5 g6 f12 f13 n0 n1 n2 s0 s1 s2 u1 u2 u3 u4 u5 u6 HT
       clear W'
       rintro e a' W' ⟨rfl, rfl, hT⟩
       have HT := aM' hT
       clear hT
       dsimp only
       have hC5 := HC.out.below HT.out.hB
       have HC5 := aM' hC5
       have g0 : W'.cell? ⟨w.heap.size, 0, none⟩ = some (.int .i64 wd) := blk_cell hC5.h0 0
       have g1 : W'.cell? ⟨b12, 0, none⟩ = some (.string st.f0) := blk_cell HT.out.h12 0
       have g2 : W'.cell? ⟨b12, 1, none⟩ = some (.int .u64 st.f1.f0) := blk_cell HT.out.h12 1
       have g3 : W'.cell? ⟨b12, 2, none⟩ = some (.int .u64 st.f1.f1) := blk_cell HT.out.h12 2
       have g4 : W'.cell? ⟨b13, 0, none⟩ = some (.string sd.f0) := blk_cell HT.out.h13 0
       have g5 : W'.cell? ⟨b13, 1, none⟩ = some (.int .u64 sd.f1.f0) := blk_cell HT.out.h13 1
       have g6 : W'.cell? ⟨b13, 2, none⟩ = some (.int .u64 sd.f1.f1) := blk_cell HT.out.h13 2
       clear hC5
       rcases hj : joinI wd st sd with ⟨r1, r2, r3, r4⟩
       have hs : stepI wd st (sd, true) = (r1, r2, r3, r4) := hj
       have hok2 := joinI_ok wd st sd HOK.out hx
       obtain ⟨kk, hkk⟩ := (join_ev wd st sd HOK.out hx)
       have HJ := aM' (hkk kk (Nat.le_refl _))
       have HS2 := aM' hs
       rw [hj] at HJ hok2
       have HOK2 := aM' hok2
       clear hkk hj hs hok2
       gi_wp2_with fail
       refine ⟨trivial, ?_⟩
       refine (CallsIn.inRound l2 (callsIn_wide.2 (node_Join.calls kk wd st.f0 st.f1.f0 st.f1.f1 sd.f0 sd.f1.f0 sd.f1.f1 r1 r2 r3 r4 _ (HK.out.below HC5.out.hB) HJ.out))).mono ?_
       rintro e w5 ⟨rfl, hb5⟩
       clear g0 g1 g2 g3 g4 g5 g6
       have HB5 := aM' hb5
       have hC6 := HC5.out.below hb5
       have HC6 := aM' hC6
       have hlz := hC6.lt
       have q3 : B1 ≠ w5.heap.size := by have := HB1.out; omega
       have q4 : B1 + 1 ≠ w5.heap.size := by have := HB1.out; omega
       have q5 : B1 + 1 + 1 ≠ w5.heap.size := by have := HB1.out; omega
       have z3 : B1 < w5.heap.size := by have := HB1.out; omega
       have z4 : B1 + 1 < w5.heap.size := by have := HB1.out; omega
       have z5 : B1 + 1 + 1 < w5.heap.size := by have := HB1.out; omega
       have hw3 : B1 + 1 + 1 < w3.heap.size := by have := HB1.out; have := HC3.out.lt; omega
       have HW3 := aM' hw3
       clear hb5 hlz hw3
       by_cases h0 : r4 = 0
       ·
        subst h0
        have cn0 : w5.cell? ⟨B1, 0, none⟩ = some (.string st.f0) := by rw [← HB1.out]; exact blk_cell hC6.h1 0
        have cn1 : w5.cell? ⟨B1, 1, none⟩ = some (.int .u64 st.f1.f0) := by rw [← HB1.out]; exact blk_cell hC6.h1 1
        have cn2 : w5.cell? ⟨B1, 2, none⟩ = some (.int .u64 st.f1.f1) := by rw [← HB1.out]; exact blk_cell hC6.h1 2
        have fn : ∀ i, w5.frozen? ⟨B1, i, none⟩ = false := fun i => by rw [← HB1.out]; exact blk_frozen hC6.h1 i
        clear hC6
        gi_wp2
        have hend := bar_alloc (bar_set (bar_set (bar_set (bar_step (bar_below HT.out.hB B1) HB5.out) (a := ⟨B1, 0, none⟩) (v := .string r1) (.inl rfl)) (a := ⟨B1, 1, none⟩) (v := .int .u64 r2) (.inl rfl)) (a := ⟨B1, 2, none⟩) (v := .int .u64 r3) (.inl rfl)) (.cells #[.string r1, .int .u64 r2, .int .u64 r3] 28)
        change KeepsFrom _ W _ ∧ _ ∧ _
        refine ⟨KeepsFrom.of_grownBy hend (fun j e => by have := Option.some.inj e; have := HW3.out; omega), fun k hk => hend.block k (lL' (HLT.out k hk) HZZ.out) (fun e => HFAR.out k hk (by have := Option.some.inj e; have := HB1.out; omega)), nodeJ (r1, r2, r3, 0), ?_, HOK2.out, ?_, Nat.le_trans HZZ.out hend.size⟩
        ·
         have := upTo_snoc wd (sd, true) _ _ _ HU.out (by rw [HS2.out])
         rw [HS2.out] at this
         rw [List.map_append]
         exact this
        ·
         have := (HC6.out.step (nodeJ (r1, r2, r3, 0))).below (below_alloc (Below.refl _ _) (.cells #[.string r1, .int .u64 r2, .int .u64 r3] 28))
         rw [HB1.out] at this
         exact this
       ·
        have b1 : (r4 != 0) = true := by simp [h0]
        have cr0 : w5.cell? ⟨B1 + 1, 0, none⟩ = some (.string ⟨#[]⟩) := by rw [← HB1.out]; exact blk_cell hC6.h2 0
        have cr1 : w5.cell? ⟨B1 + 1, 1, none⟩ = some (.int .u64 0) := by rw [← HB1.out]; exact blk_cell hC6.h2 1
        have cr2 : w5.cell? ⟨B1 + 1, 2, none⟩ = some (.int .u64 0) := by rw [← HB1.out]; exact blk_cell hC6.h2 2
        have fr : ∀ i, w5.frozen? ⟨B1 + 1, i, none⟩ = false := fun i => by rw [← HB1.out]; exact blk_frozen hC6.h2 i
        have ce : w5.cell? ⟨B1 + 1 + 1, 0, none⟩ = some (.int .i64 0) := by rw [← HB1.out]; exact blk_cell hC6.h3 0
        have fe : ∀ i, w5.frozen? ⟨B1 + 1 + 1, i, none⟩ = false := fun i => by rw [← HB1.out]; exact blk_frozen hC6.h3 i
        clear hC6
        gi_wp2
        have hend := bar_set (bar_set (bar_set (bar_step (bar_below HT.out.hB (B1 + 1)) HB5.out) (a := ⟨B1 + 1, 0, none⟩) (v := .string ⟨#[]⟩) (.inl rfl)) (a := ⟨B1 + 1, 1, none⟩) (v := .int .u64 0) (.inl rfl)) (a := ⟨B1 + 1, 2, none⟩) (v := .int .u64 0) (.inl rfl)
        change KeepsFrom _ W _ ∧ _
        refine ⟨(KeepsFrom.of_grownBy hend (fun j e => by have := Option.some.inj e; have := HW3.out; omega)).trans ((KeepsFrom.of_grownBy (grownBy_setCell' _ (B1 + 1 + 1) (.int .i64 r4)) (fun j e => by have := Option.some.inj e; have := HW3.out; omega)).trans (KeepsFrom.of_grownBy (World.grownBy_alloc _ (.cells #[.string r1, .int .u64 r2, .int .u64 r3] 28) none) (fun j e => by cases e))), rfl, pre.map Subtype.val, (sd, true), st, st, by simp, HU.out, by rw [HS2.out]; exact h0, ?_⟩
        rw [HS2.out]
        have := (HC6.out.put ⟨⟨#[]⟩, ⟨0, 0⟩⟩ r4).below (below_alloc (Below.refl _ _) (.cells #[.string r1, .int .u64 r2, .int .u64 r3] 28))
        rw [HB1.out] at this
        exact this
    case done =>
     rintro D xs W hD hxs ⟨st, hu, hok, hC, hz⟩ hdf
     have HU := aM' (show climbI wd n p l = (st.f0, st.f1.f0, st.f1.f1, 0) by
      rw [HI.out, ← hxs, show xs.map Subtype.val = xs.map Subtype.val ++ [] by simp, climbL_up wd [] _ _ _ hu]; rfl)
     have cn0 : W.cell? ⟨w.heap.size + 1, 0, none⟩ = some (.string st.f0) := blk_cell hC.h1 0
     have cn1 : W.cell? ⟨w.heap.size + 1, 1, none⟩ = some (.int .u64 st.f1.f0) := blk_cell hC.h1 1
     have cn2 : W.cell? ⟨w.heap.size + 1, 2, none⟩ = some (.int .u64 st.f1.f1) := blk_cell hC.h1 2
     have cr0 : W.cell? ⟨w.heap.size + 1 + 1, 0, none⟩ = some (.string ⟨#[]⟩) := blk_cell hC.h2 0
     have cr1 : W.cell? ⟨w.heap.size + 1 + 1, 1, none⟩ = some (.int .u64 0) := blk_cell hC.h2 1
     have cr2 : W.cell? ⟨w.heap.size + 1 + 1, 2, none⟩ = some (.int .u64 0) := blk_cell hC.h2 2
     have fr : ∀ i, W.frozen? ⟨w.heap.size + 1 + 1, i, none⟩ = false := fun i => blk_frozen hC.h2 i
     have ce : W.cell? ⟨w.heap.size + 1 + 1 + 1, 0, none⟩ = some (.int .i64 0) := blk_cell hC.h3 0
     have fe : ∀ i, W.frozen? ⟨w.heap.size + 1 + 1 + 1, i, none⟩ = false := fun i => blk_frozen hC.h3 i
     have HC := aM' hC
     have HDF := aM' hdf
     have HDD := aM' hD
     clear hu hok hC hz hdf hD hxs
     gi_wp2
     rw [HU.out]
     have hDn : w.heap.size + 1 + 1 + 1 < D := by have := HDD.out; rw [HZ.out] at this; have := HL.out; omega
     exact climb_retD (HC.out.put st 0) hDn (blk_res HDF.out (by omega) (by omega) _ _ _ _) rfl rfl (fun W' hb => ⟨rfl, hb⟩)
    case stop =>
     rintro D c2 pre W hD ⟨k, hk, hp1⟩ ⟨rfl, pre0, x, st, st', h1, h2, h3, h4⟩ hdf
     obtain ⟨rest, hrest⟩ := turnsTo_pre p l k (l.length - k)
     rw [show k + (l.length - k) = l.length by omega, ← hp1, h1, List.append_assoc] at hrest
     have HU := aM' (show climbI wd n p l = (⟨#[]⟩, 0, 0, (stepI wd st x).2.2.2) by
      rw [HI.out, hrest, climbL_up wd _ _ _ _ h2]
      show climbL wd st (x :: rest) = _
      unfold climbL; rw [if_neg h3])
     gi_wp2
     rw [HU.out]
     exact climb_retD h4 (by rw [HZ.out] at hD; have := HL.out; omega) hdf rfl rfl (fun W' hb => ⟨rfl, hb⟩)
def node_Climb.f (x0 : Int) (x1 : ByteArray) (x2 x3 p : Int) (l : List SNode) : Option (ByteArray × Int × Int × Int) :=
 if 0 ≤ p ∧ ((0 ≤ x2 ∧ x2 < 18446744073709551616) ∧ (0 ≤ x3 ∧ x3 < 18446744073709551616)) ∧ ∀ x ∈ l, (0 ≤ x.f1.f0 ∧ x.f1.f0 < 18446744073709551616) ∧ (0 ≤ x.f1.f1 ∧ x.f1.f1 < 18446744073709551616) then some (climbI x0 ⟨x1, ⟨x2, x3⟩⟩ p l) else none
theorem node_Climb.calls (x0 : Int) (x1 : ByteArray) (x2 x3 p : Int) (A : Option Addr) (c : Nat) (l : List SNode) (r1 : ByteArray) (r2 r3 r4 : Int) (w : World) (hK : Laid w) (hr : Kd.C kNode w A l.length l) (hc : l.length ≤ c) (h : node_Climb.f x0 x1 x2 x3 p l = some (r1, r2, r3, r4)) :
  Calls Tryd.prog 19 #[.int .i64 x0, .agg #[.string x1, .int .u64 x2, .int .u64 x3], .int .u64 p, .slice A l.length c] w fun e w' => e = .returned (.tuple #[.agg #[.string r1, .int .u64 r2, .int .u64 r3], .int .i64 r4]) ∧ Below w.heap.size w w' := by
 unfold node_Climb.f at h
 split at h
 ·
  rename_i hh
  have h2 := Option.some.inj h
  refine (climb.calls x0 ⟨x1, ⟨x2, x3⟩⟩ p A c l w hK hr hh.1 ⟨hh.2.1.1, hh.2.1.2⟩ (fun x hx => ⟨(hh.2.2 x hx).1, (hh.2.2 x hx).2⟩)).mono ?_
  rintro e w' ⟨rfl, hb⟩
  rw [h2]
  exact ⟨rfl, hb⟩
 ·
  cases h
end Go.Proofs.YtijfifphcchbbaaDoor.P
namespace Go.Proofs.YtijfifphcchbbaaDoor.P
open Go.RowKit Go.Proofs.YtijfifphcchbbaaDoorW.PrintWords Go.Proofs.YtijfifphcchbbaaDoorW.PrintLast Go.Proofs.YtijfifphcchbbaaDoorW.PrintMore
set_option linter.unusedVariables false
set_option linter.unusedSimpArgs false
set_option linter.unnecessarySimpa false
structure OkE (e : SEntry) : Prop where
 id : e.f0.f1.size ≤ 1000000
 sa : e.f0.f2.size ≤ 1000000
 ub : OkU e.f0.f3
 p : 0 ≤ e.f1.f0 ∧ e.f1.f0 < 18446744073709551616
 us : ∀ x ∈ e.f1.f1, OkU x.f1
 ls : e.f1.f1.length ≤ 9223372036854775807
def climbE (w : Int) (e : SEntry) : ByteArray × Int × Int × Int := climbI w (leafNodeI w e.f0) e.f1.f0 e.f1.f1
def upI (w : Int) (e : SEntry) : ByteArray × Int × Int × Int × Int :=
 if mayLeafI e.f0 = true then
  (if shapeN w (e.f1.f1.length : Int) e.f1.f0 e.f1.f1 = 0 then
   (if (climbE w e).2.2.2 = 0 then ((climbE w e).1, (climbE w e).2.1, (climbE w e).2.2.1, (e.f1.f1.length : Int), 0) else (⟨#[]⟩, 0, 0, 0, (climbE w e).2.2.2))
  else (⟨#[]⟩, 0, 0, 0, shapeN w (e.f1.f1.length : Int) e.f1.f0 e.f1.f1))
 else (⟨#[]⟩, 0, 0, 0, 130)
def mayRI (r : SRoot) : Int := if r.f2 < 0 ∨ r.f2 > 63 then 120 else if (r.f0.size : Int) < 1 ∨ (r.f0.size : Int) > 32 then 70 else 0
def checkI (r : SRoot) (e : SEntry) : Int :=
 if mayRI r = 0 then
  (if mayLeafI e.f0 = true then
   (if shapeN (r.f0.size : Int) r.f2 e.f1.f0 e.f1.f1 = 0 then
    (if (climbE (r.f0.size : Int) e).2.2.2 = 0 then
     (if (climbE (r.f0.size : Int) e).1.toList = r.f0.toList ∧ (climbE (r.f0.size : Int) e).2.1 = r.f1.f0 ∧ (climbE (r.f0.size : Int) e).2.2.1 = r.f1.f1 then 0 else 160)
    else (climbE (r.f0.size : Int) e).2.2.2)
   else shapeN (r.f0.size : Int) r.f2 e.f1.f0 e.f1.f1)
  else 130)
 else mayRI r
theorem nodeClimb_eq (w : Int) (e : SEntry) (h : OkE e) : node_Climb.f w (leafNodeI w e.f0).f0 (leafNodeI w e.f0).f1.f0 (leafNodeI w e.f0).f1.f1 e.f1.f0 e.f1.f1 = some (climbE w e) := by
 have u := leafNodeI_ok w e.f0 h.ub
 unfold node_Climb.f climbE
 rw [if_pos ⟨h.p.1, ⟨u.h0, u.h1⟩, fun x hx => ⟨(h.us x hx).h0, (h.us x hx).h1⟩⟩]
theorem verifyMay_ev (r : SRoot) : Ev (fun k => verify_May.f k r.f0 r.f1.f0 r.f1.f1 r.f2) (mayRI r) := by
 have hj : ∀ b : Bool, (b = true ↔ (r.f2 < 0 ∨ r.f2 > 63)) → Ev (fun k => verify_May.j0 k b r.f0 r.f1.f0 r.f1.f1 r.f2) (mayRI r) := by
  intro b hb
  refine Ev.step (f := fun _ => some (mayRI r)) (fun k => ?_) (Ev.now _)
  rw [verify_May.j0]
  unfold mayRI
  by_cases h1 : r.f2 < 0 ∨ r.f2 > 63
  ·
   rw [if_pos (hb.2 h1), if_pos h1]
  ·
   rw [if_neg (fun h => h1 (hb.1 h)), if_neg h1]
   by_cases h2 : (r.f0.size : Int) < 1
   ·
    rw [if_pos h2, if_pos (.inl h2)]
   ·
    rw [if_neg h2]
    by_cases h3 : (r.f0.size : Int) > 32
    ·
     rw [if_pos h3, if_pos (.inr h3)]
    ·
     rw [if_neg h3, if_neg (by omega)]
 unfold verify_May.f
 by_cases h : r.f2 < 0
 ·
  exact Ev.congr (fun k => by rw [if_pos h]) (hj true (by simp [h]))
 ·
  exact Ev.congr (fun k => by rw [if_neg h]) (hj (decide (r.f2 > 63)) (by simp; omega))
end Go.Proofs.YtijfifphcchbbaaDoor.P
namespace Go.Proofs.YtijfifphcchbbaaDoor.P
open Go.RowKit Go.Proofs.YtijfifphcchbbaaDoorW.PrintWords Go.Proofs.YtijfifphcchbbaaDoorW.PrintLast Go.Proofs.YtijfifphcchbbaaDoorW.PrintMore
set_option linter.unusedVariables false
set_option linter.unusedSimpArgs false
set_option linter.unnecessarySimpa false
attribute [local go_sem] sel_true
abbrev askA (r : SRoot) (e : SEntry) (A : Option Addr) (c : Nat) : Array Value := #[.string r.f0, .int .u64 r.f1.f0, .int .u64 r.f1.f1, .int .i64 r.f2, .bool e.f0.f0, .string e.f0.f1, .string e.f0.f2, .int .u64 e.f0.f3.f0, .int .u64 e.f0.f3.f1, .int .u64 e.f1.f0, .slice A e.f1.f1.length c]
structure AskS (w w' : World) (r : SRoot) (e : SEntry) (A : Option Addr) (c : Nat) : Prop where
 hB : Below w.heap.size w w'
 h0 : w'.heap[w.heap.size]? = some (.cells (askA r e A c) 134 (0, 0))
theorem AskS.of {w w' : World} {r : SRoot} {e : SEntry} {A : Option Addr} {c : Nat} {C : Prop} (h : C ∧ AskS w w' r e A c) : AskS w w' r e A c := h.2
theorem AskS.below {w w' W : World} {r : SRoot} {e : SEntry} {A : Option Addr} {c : Nat} (h : AskS w w' r e A c) (hb : Below w'.heap.size w' W) : AskS w W r e A c := ⟨h.hB.trans (hb.mono h.hB.size), blk_below h.h0 hb⟩
theorem AskS.drew {w w' : World} {r : SRoot} {e : SEntry} {A : Option Addr} {c : Nat} (h : AskS w w' r e A c) : AskS w w'.drew r e A c := h.below (below_drew (Below.refl _ _))
theorem AskS.cells {w w' : World} {r : SRoot} {e : SEntry} {A : Option Addr} {c : Nat} (h : AskS w w' r e A c) : (w'.cell? ⟨w.heap.size, 0, none⟩ = some (.string r.f0) ∧ w'.cell? ⟨w.heap.size, 1, none⟩ = some (.int .u64 r.f1.f0) ∧ w'.cell? ⟨w.heap.size, 2, none⟩ = some (.int .u64 r.f1.f1) ∧ w'.cell? ⟨w.heap.size, 3, none⟩ = some (.int .i64 r.f2) ∧ w'.cell? ⟨w.heap.size, 4, none⟩ = some (.bool e.f0.f0) ∧ w'.cell? ⟨w.heap.size, 5, none⟩ = some (.string e.f0.f1) ∧ w'.cell? ⟨w.heap.size, 6, none⟩ = some (.string e.f0.f2) ∧ w'.cell? ⟨w.heap.size, 7, none⟩ = some (.int .u64 e.f0.f3.f0) ∧ w'.cell? ⟨w.heap.size, 8, none⟩ = some (.int .u64 e.f0.f3.f1) ∧ w'.cell? ⟨w.heap.size, 9, none⟩ = some (.int .u64 e.f1.f0) ∧ w'.cell? ⟨w.heap.size, 10, none⟩ = some (.slice A e.f1.f1.length c)) ∧ AskS w w' r e A c :=
 ⟨⟨blk_cell h.h0 0, blk_cell h.h0 1, blk_cell h.h0 2, blk_cell h.h0 3, blk_cell h.h0 4, blk_cell h.h0 5, blk_cell h.h0 6, blk_cell h.h0 7, blk_cell h.h0 8, blk_cell h.h0 9, blk_cell h.h0 10⟩, h⟩
theorem AskS.put3 {w W : World} {r : SRoot} {e : SEntry} {A : Option Addr} {c : Nat} (h : AskS w W r e A c) {g : Nat} (hg : w.heap.size < g) (x y z : Value) : AskS w (((W.setCell ⟨g, 0, none⟩ x).setCell ⟨g, 1, none⟩ y).setCell ⟨g, 2, none⟩ z) r e A c :=
 ⟨below_set (below_set (below_set h.hB (by (try dsimp only); omega)) (by (try dsimp only); omega)) (by (try dsimp only); omega), far3 h.h0 (by omega) _ _ _⟩
theorem LaidT.one {w : World} (h : LaidT w) : Laid w := h.1
set_option maxRecDepth 100000 in
set_option maxHeartbeats 2000000 in
theorem askClimb.calls (r : SRoot) (e : SEntry) (A : Option Addr) (c : Nat) (w : World) (hK : LaidT w) (hr : Kd.C kNode w A e.f1.f1.length e.f1.f1) (hc : e.f1.f1.length ≤ c) (he : OkE e) (res : Int) (hres : (if (climbE (r.f0.size : Int) e).2.2.2 = 0 then (if (climbE (r.f0.size : Int) e).1.toList = r.f0.toList ∧ (climbE (r.f0.size : Int) e).2.1 = r.f1.f0 ∧ (climbE (r.f0.size : Int) e).2.2.1 = r.f1.f1 then 0 else 160) else (climbE (r.f0.size : Int) e).2.2.2) = res) :
  Calls Tryd.prog 81 #[.agg (askA r e A c)] w fun x w' => x = .returned (.int .i64 res) ∧ Below w.heap.size w w' := by
 have HK := aM' hK
 have HR := aM' hr
 have HC := aM' hc
 have HE := aM' he
 obtain ⟨kl, hkl⟩ := tagLeafNode_ev (r.f0.size : Int) e.f0 he.id he.sa
 have HL := aM' (hkl kl (Nat.le_refl _))
 have HCl := aM' (nodeClimb_eq (r.f0.size : Int) e he)
 clear hK hr hc he hkl
 generalize hcl : climbE (r.f0.size : Int) e = cl at HCl hres
 obtain ⟨c1, c2, c3, c4⟩ := cl
 clear hcl
 have HRES := aM' hres
 clear hres
 generalize hln : leafNodeI (r.f0.size : Int) e.f0 = ln at HL HCl
 clear hln
 dsimp only at HRES
 go_enter Tryd.func81, Tryd.ntmps81
 go_wp2
 have HS := aM' (show AskS w (w.alloc (.cells (askA r e A c) 134)) r e A c from ⟨below_alloc (Below.refl _ _) _, blk_new w _⟩)
 refine region_inv (fun l a W => ∃ γ : Nat, a = ({ tmps := #[.agg (askA r e A c), .pointer (some ⟨w.heap.size, 0, none⟩), .int .i64 0, sel (l 24) (.pointer (some ⟨γ, 0, none⟩)) (undef), sel (l 26) (.int .i64 c4) (undef), sel (l 21) (.tuple #[.agg #[.string c1, .int .u64 c2, .int .u64 c3], .int .i64 c4]) (undef), sel (l 0) (.pointer (some ⟨w.heap.size, 0, none⟩)) (undef), sel (l 1) (.pointer (some ⟨w.heap.size, 0, none⟩)) (undef), sel (l 2) (.string r.f0) (undef), sel (l 3) (.int .i64 (r.f0.size : Int)) (undef), sel (l 4) (.pointer (some ⟨w.heap.size, 0, none⟩)) (undef), sel (l 5) (.pointer (some ⟨w.heap.size, 0, none⟩)) (undef), sel (l 6) (.string r.f0) (undef), sel (l 7) (.int .i64 (r.f0.size : Int)) (undef), sel (l 8) (.pointer (some ⟨w.heap.size, 4, none⟩)) (undef), sel (l 9) (.pointer (some ⟨w.heap.size, 4, none⟩)) (undef), sel (l 10) (.agg #[.bool e.f0.f0, .string e.f0.f1, .string e.f0.f2, .int .u64 e.f0.f3.f0, .int .u64 e.f0.f3.f1]) (undef), sel (l 11) (.agg #[.string ln.f0, .int .u64 ln.f1.f0, .int .u64 ln.f1.f1]) (undef), sel (l 12) (.pointer (some ⟨w.heap.size, 4, none⟩)) (undef), sel (l 13) (.pointer (some ⟨w.heap.size, 9, none⟩)) (undef), sel (l 14) (.pointer (some ⟨w.heap.size, 9, none⟩)) (undef), sel (l 15) (.int .u64 e.f1.f0) (undef), sel (l 16) (.pointer (some ⟨w.heap.size, 4, none⟩)) (undef), sel (l 17) (.pointer (some ⟨w.heap.size, 9, none⟩)) (undef), sel (l 18) (.pointer (some ⟨w.heap.size, 10, none⟩)) (undef), sel (l 19) (.slice A e.f1.f1.length c) (undef), sel (l 20) (.tuple #[.agg #[.string c1, .int .u64 c2, .int .u64 c3], .int .i64 c4]) (undef), sel (l 22) (.agg #[.string c1, .int .u64 c2, .int .u64 c3]) (undef), sel (l 23) (.int .i64 c4) (undef), undef, undef, undef, undef, undef, undef, undef, undef, undef, undef, undef, undef, undef, undef, undef, undef, undef, undef, undef], defers := [] } : Act) ∧ (AskS w W r e A c ∧ (l 25 = true → l 24 = true) ∧ (l 24 = true → w.heap.size < γ ∧ W.heap[γ]? = some (.cells (if l 25 = true then #[.string c1, .int .u64 c2, .int .u64 c3] else #[.string ⟨#[]⟩, .int .u64 0, .int .u64 0]) 28 (0, 0))))) 27 rfl rfl (by kernel_rfl) ?h0 ?hend ?hstep
 case h0 => exact ⟨0, rfl, HS.out.drew, (fun h => by cases h), fun h => by cases h⟩
 case hstep =>
  refine rg_cons (rg_cons (rg_cons (rg_cons (rg_cons (rg_cons (rg_cons (rg_cons (rg_cons (rg_cons (rg_cons (rg_cons (rg_cons (rg_cons (rg_cons (rg_cons (rg_cons (rg_cons (rg_cons (rg_cons (rg_cons (rg_cons (rg_cons (rg_cons (rg_cons (rg_cons (rg_cons (rg_nil) ?s0) ?s1) ?s2) ?s3) ?s4) ?s5) ?s6) ?s7) ?s8) ?s9) ?s10) ?s11) ?s12) ?s13) ?s14) ?s15) ?s16) ?s17) ?s18) ?s19) ?s20) ?s21) ?s22) ?s23) ?s24) ?s25) ?s26
  case s0 =>
   refine rg_step rfl ?_
   rintro l a W ⟨γ, rfl, hI⟩ hl hd
   clear hd
   refine rg_val (v := .pointer (some ⟨w.heap.size, 0, none⟩)) (w' := W) rfl (by go_simp) ?_
   refine ⟨γ, ?_, ?_⟩
   ·
    simp only [Act.put, List.setIfInBounds_toArray, List.set_cons_zero, List.set_cons_succ]; rfl
   ·
    exact hI
  case s1 =>
   refine rg_step rfl ?_
   rintro l a W ⟨γ, rfl, hI⟩ hl hd
   have d0 := hd 0 (by decide)
   clear hd
   refine rg_val (v := .pointer (some ⟨w.heap.size, 0, none⟩)) (w' := W) rfl (by go_simp) ?_
   refine ⟨γ, ?_, ?_⟩
   ·
    simp only [Act.put, List.setIfInBounds_toArray, List.set_cons_zero, List.set_cons_succ]; rfl
   ·
    exact hI
  case s2 =>
   refine rg_step rfl ?_
   rintro l a W ⟨γ, rfl, hI⟩ hl hd
   have d1 := hd 1 (by decide)
   clear hd
   have x0 := blk_cell hI.1.h0 0
   simp at x0
   refine rg_val (v := .string r.f0) (w' := W) rfl (by go_simp) ?_
   refine ⟨γ, ?_, ?_⟩
   ·
    simp only [Act.put, List.setIfInBounds_toArray, List.set_cons_zero, List.set_cons_succ]; rfl
   ·
    exact hI
  case s3 =>
   refine rg_step rfl ?_
   rintro l a W ⟨γ, rfl, hI⟩ hl hd
   have d2 := hd 2 (by decide)
   clear hd
   refine rg_val (v := .int .i64 (r.f0.size : Int)) (w' := W) rfl (by go_simp) ?_
   refine ⟨γ, ?_, ?_⟩
   ·
    simp only [Act.put, List.setIfInBounds_toArray, List.set_cons_zero, List.set_cons_succ]; rfl
   ·
    exact hI
  case s4 =>
   refine rg_step rfl ?_
   rintro l a W ⟨γ, rfl, hI⟩ hl hd
   clear hd
   refine rg_val (v := .pointer (some ⟨w.heap.size, 0, none⟩)) (w' := W) rfl (by go_simp) ?_
   refine ⟨γ, ?_, ?_⟩
   ·
    simp only [Act.put, List.setIfInBounds_toArray, List.set_cons_zero, List.set_cons_succ]; rfl
   ·
    exact hI
  case s5 =>
   refine rg_step rfl ?_
   rintro l a W ⟨γ, rfl, hI⟩ hl hd
   have d4 := hd 4 (by decide)
   clear hd
   refine rg_val (v := .pointer (some ⟨w.heap.size, 0, none⟩)) (w' := W) rfl (by go_simp) ?_
   refine ⟨γ, ?_, ?_⟩
   ·
    simp only [Act.put, List.setIfInBounds_toArray, List.set_cons_zero, List.set_cons_succ]; rfl
   ·
    exact hI
  case s6 =>
   refine rg_step rfl ?_
   rintro l a W ⟨γ, rfl, hI⟩ hl hd
   have d5 := hd 5 (by decide)
   clear hd
   have x0 := blk_cell hI.1.h0 0
   simp at x0
   refine rg_val (v := .string r.f0) (w' := W) rfl (by go_simp) ?_
   refine ⟨γ, ?_, ?_⟩
   ·
    simp only [Act.put, List.setIfInBounds_toArray, List.set_cons_zero, List.set_cons_succ]; rfl
   ·
    exact hI
  case s7 =>
   refine rg_step rfl ?_
   rintro l a W ⟨γ, rfl, hI⟩ hl hd
   have d6 := hd 6 (by decide)
   clear hd
   refine rg_val (v := .int .i64 (r.f0.size : Int)) (w' := W) rfl (by go_simp) ?_
   refine ⟨γ, ?_, ?_⟩
   ·
    simp only [Act.put, List.setIfInBounds_toArray, List.set_cons_zero, List.set_cons_succ]; rfl
   ·
    exact hI
  case s8 =>
   refine rg_step rfl ?_
   rintro l a W ⟨γ, rfl, hI⟩ hl hd
   clear hd
   refine rg_val (v := .pointer (some ⟨w.heap.size, 4, none⟩)) (w' := W) rfl (by go_simp) ?_
   refine ⟨γ, ?_, ?_⟩
   ·
    simp only [Act.put, List.setIfInBounds_toArray, List.set_cons_zero, List.set_cons_succ]; rfl
   ·
    exact hI
  case s9 =>
   refine rg_step rfl ?_
   rintro l a W ⟨γ, rfl, hI⟩ hl hd
   have d8 := hd 8 (by decide)
   clear hd
   refine rg_val (v := .pointer (some ⟨w.heap.size, 4, none⟩)) (w' := W) rfl (by go_simp) ?_
   refine ⟨γ, ?_, ?_⟩
   ·
    simp only [Act.put, List.setIfInBounds_toArray, List.set_cons_zero, List.set_cons_succ]; rfl
   ·
    exact hI
  case s10 =>
   refine rg_step rfl ?_
   rintro l a W ⟨γ, rfl, hI⟩ hl hd
   have d9 := hd 9 (by decide)
   clear hd
   have x4 := blk_cell hI.1.h0 4
   have x5 := blk_cell hI.1.h0 5
   have x6 := blk_cell hI.1.h0 6
   have x7 := blk_cell hI.1.h0 7
   have x8 := blk_cell hI.1.h0 8
   simp at x4 x5 x6 x7 x8
   refine rg_val (v := .agg #[.bool e.f0.f0, .string e.f0.f1, .string e.f0.f2, .int .u64 e.f0.f3.f0, .int .u64 e.f0.f3.f1]) (w' := W) rfl (by go_simp) ?_
   refine ⟨γ, ?_, ?_⟩
   ·
    simp only [Act.put, List.setIfInBounds_toArray, List.set_cons_zero, List.set_cons_succ]; rfl
   ·
    exact hI
  case s11 =>
   refine rg_step rfl ?_
   rintro l a W ⟨γ, rfl, hI⟩ hl hd
   have d7 := hd 7 (by decide)
   have d10 := hd 10 (by decide)
   clear hd
   refine rg_call rfl (by go_simp; exact ⟨rfl, rfl⟩) ?_
   refine (tag_LeafNode.calls kl _ _ _ _ _ _ _ _ _ _ (HK.out.below hI.1.hB) HL.out).mono ?_
   rintro x W' ⟨rfl, hb⟩
   refine ⟨_, rfl, γ, ?_, ?_⟩
   ·
    simp only [Act.put, List.setIfInBounds_toArray, List.set_cons_zero, List.set_cons_succ]; rfl
   ·
    exact ⟨hI.1.below hb, hI.2.1, fun h => ⟨(hI.2.2 h).1, blk_below (hI.2.2 h).2 hb⟩⟩
  case s12 =>
   refine rg_step rfl ?_
   rintro l a W ⟨γ, rfl, hI⟩ hl hd
   clear hd
   refine rg_val (v := .pointer (some ⟨w.heap.size, 4, none⟩)) (w' := W) rfl (by go_simp) ?_
   refine ⟨γ, ?_, ?_⟩
   ·
    simp only [Act.put, List.setIfInBounds_toArray, List.set_cons_zero, List.set_cons_succ]; rfl
   ·
    exact hI
  case s13 =>
   refine rg_step rfl ?_
   rintro l a W ⟨γ, rfl, hI⟩ hl hd
   have d12 := hd 12 (by decide)
   clear hd
   refine rg_val (v := .pointer (some ⟨w.heap.size, 9, none⟩)) (w' := W) rfl (by go_simp) ?_
   refine ⟨γ, ?_, ?_⟩
   ·
    simp only [Act.put, List.setIfInBounds_toArray, List.set_cons_zero, List.set_cons_succ]; rfl
   ·
    exact hI
  case s14 =>
   refine rg_step rfl ?_
   rintro l a W ⟨γ, rfl, hI⟩ hl hd
   have d13 := hd 13 (by decide)
   clear hd
   refine rg_val (v := .pointer (some ⟨w.heap.size, 9, none⟩)) (w' := W) rfl (by go_simp) ?_
   refine ⟨γ, ?_, ?_⟩
   ·
    simp only [Act.put, List.setIfInBounds_toArray, List.set_cons_zero, List.set_cons_succ]; rfl
   ·
    exact hI
  case s15 =>
   refine rg_step rfl ?_
   rintro l a W ⟨γ, rfl, hI⟩ hl hd
   have d14 := hd 14 (by decide)
   clear hd
   have x9 := blk_cell hI.1.h0 9
   simp at x9
   refine rg_val (v := .int .u64 e.f1.f0) (w' := W) rfl (by go_simp) ?_
   refine ⟨γ, ?_, ?_⟩
   ·
    simp only [Act.put, List.setIfInBounds_toArray, List.set_cons_zero, List.set_cons_succ]; rfl
   ·
    exact hI
  case s16 =>
   refine rg_step rfl ?_
   rintro l a W ⟨γ, rfl, hI⟩ hl hd
   clear hd
   refine rg_val (v := .pointer (some ⟨w.heap.size, 4, none⟩)) (w' := W) rfl (by go_simp) ?_
   refine ⟨γ, ?_, ?_⟩
   ·
    simp only [Act.put, List.setIfInBounds_toArray, List.set_cons_zero, List.set_cons_succ]; rfl
   ·
    exact hI
  case s17 =>
   refine rg_step rfl ?_
   rintro l a W ⟨γ, rfl, hI⟩ hl hd
   have d16 := hd 16 (by decide)
   clear hd
   refine rg_val (v := .pointer (some ⟨w.heap.size, 9, none⟩)) (w' := W) rfl (by go_simp) ?_
   refine ⟨γ, ?_, ?_⟩
   ·
    simp only [Act.put, List.setIfInBounds_toArray, List.set_cons_zero, List.set_cons_succ]; rfl
   ·
    exact hI
  case s18 =>
   refine rg_step rfl ?_
   rintro l a W ⟨γ, rfl, hI⟩ hl hd
   have d17 := hd 17 (by decide)
   clear hd
   refine rg_val (v := .pointer (some ⟨w.heap.size, 10, none⟩)) (w' := W) rfl (by go_simp) ?_
   refine ⟨γ, ?_, ?_⟩
   ·
    simp only [Act.put, List.setIfInBounds_toArray, List.set_cons_zero, List.set_cons_succ]; rfl
   ·
    exact hI
  case s19 =>
   refine rg_step rfl ?_
   rintro l a W ⟨γ, rfl, hI⟩ hl hd
   have d18 := hd 18 (by decide)
   clear hd
   have x10 := blk_cell hI.1.h0 10
   simp at x10
   refine rg_val (v := .slice A e.f1.f1.length c) (w' := W) rfl (by go_simp) ?_
   refine ⟨γ, ?_, ?_⟩
   ·
    simp only [Act.put, List.setIfInBounds_toArray, List.set_cons_zero, List.set_cons_succ]; rfl
   ·
    exact hI
  case s20 =>
   refine rg_step rfl ?_
   rintro l a W ⟨γ, rfl, hI⟩ hl hd
   have d3 := hd 3 (by decide)
   have d11 := hd 11 (by decide)
   have d15 := hd 15 (by decide)
   have d19 := hd 19 (by decide)
   clear hd
   refine rg_call rfl (by go_simp; exact ⟨rfl, rfl⟩) ?_
   refine (node_Climb.calls _ _ _ _ _ A c e.f1.f1 _ _ _ _ _ ((LaidT.one HK.out).below hI.1.hB) (Kd.C_below HR.out hI.1.hB) HC.out HCl.out).mono ?_
   rintro x W' ⟨rfl, hb⟩
   refine ⟨_, rfl, γ, ?_, ?_⟩
   ·
    simp only [Act.put, List.setIfInBounds_toArray, List.set_cons_zero, List.set_cons_succ]; rfl
   ·
    exact ⟨hI.1.below hb, hI.2.1, fun h => ⟨(hI.2.2 h).1, blk_below (hI.2.2 h).2 hb⟩⟩
  case s21 =>
   refine rg_step rfl ?_
   rintro l a W ⟨γ, rfl, hI⟩ hl hd
   have d20 := hd 20 (by decide)
   clear hd
   refine rg_val (v := .tuple #[.agg #[.string c1, .int .u64 c2, .int .u64 c3], .int .i64 c4]) (w' := W) rfl (by go_simp) ?_
   refine ⟨γ, ?_, ?_⟩
   ·
    simp only [Act.put, List.setIfInBounds_toArray, List.set_cons_zero, List.set_cons_succ]; rfl
   ·
    exact hI
  case s22 =>
   refine rg_step rfl ?_
   rintro l a W ⟨γ, rfl, hI⟩ hl hd
   have d21 := hd 21 (by decide)
   clear hd
   refine rg_val (v := .agg #[.string c1, .int .u64 c2, .int .u64 c3]) (w' := W) rfl (by go_simp) ?_
   refine ⟨γ, ?_, ?_⟩
   ·
    simp only [Act.put, List.setIfInBounds_toArray, List.set_cons_zero, List.set_cons_succ]; rfl
   ·
    exact hI
  case s23 =>
   refine rg_step rfl ?_
   rintro l a W ⟨γ, rfl, hI⟩ hl hd
   have d21 := hd 21 (by decide)
   clear hd
   refine rg_val (v := .int .i64 c4) (w' := W) rfl (by go_simp) ?_
   refine ⟨γ, ?_, ?_⟩
   ·
    simp only [Act.put, List.setIfInBounds_toArray, List.set_cons_zero, List.set_cons_succ]; rfl
   ·
    exact hI
  case s24 =>
   refine rg_step rfl ?_
   rintro l a W ⟨γ, rfl, hI⟩ hl hd
   clear hd
   refine rg_val (v := .pointer (some ⟨W.heap.size, 0, none⟩)) (w' := W.alloc (.cells #[.string ⟨#[]⟩, .int .u64 0, .int .u64 0] 28)) rfl (by go_simp) ?_
   refine ⟨W.heap.size, ?_, ?_⟩
   ·
    simp only [Act.put, List.setIfInBounds_toArray, List.set_cons_zero, List.set_cons_succ]; rfl
   ·
    exact ⟨hI.1.below (below_alloc (Below.refl _ _) _), fun _ => rfl, fun _ => ⟨blk_lt hI.1.h0, by rw [if_neg (show ¬ upd l 24 25 = true from fun h => by have h : l 25 = true := h; rw [hI.2.1 h] at hl; cases hl)]; exact blk_new W _⟩⟩
  case s25 =>
   refine rg_step rfl ?_
   rintro l a W ⟨γ, rfl, hI⟩ hl hd
   have d24 := hd 24 (by decide)
   have d22 := hd 22 (by decide)
   clear hd
   have hg := hI.2.2 d24
   rw [if_neg (by rw [hl]; decide)] at hg
   have y0 := blk_cell hg.2 0
   have y1 := blk_cell hg.2 1
   have y2 := blk_cell hg.2 2
   have yf := fun i => blk_frozen hg.2 i
   simp at y0 y1 y2
   refine rg_skip rfl (by go_simp; rfl) ?_
   refine ⟨γ, ?_, ?_⟩
   ·
    simp only [Act.put, List.setIfInBounds_toArray, List.set_cons_zero, List.set_cons_succ]; rfl
   ·
    exact ⟨hI.1.put3 hg.1 _ _ _, fun _ => d24, fun _ => ⟨hg.1, put3 (z := ⟨⟨#[]⟩, ⟨0, 0⟩⟩) hg.2 ⟨c1, ⟨c2, c3⟩⟩⟩⟩
  case s26 =>
   refine rg_step rfl ?_
   rintro l a W ⟨γ, rfl, hI⟩ hl hd
   have d23 := hd 23 (by decide)
   clear hd
   refine rg_val (v := .int .i64 c4) (w' := W) rfl (by go_simp) ?_
   refine ⟨γ, ?_, ?_⟩
   ·
    simp only [Act.put, List.setIfInBounds_toArray, List.set_cons_zero, List.set_cons_succ]; rfl
   ·
    exact hI
 case hend =>
  rintro l a W ⟨γ, rfl, hI⟩ hall
  have e0 := hall 0 (by decide)
  have e1 := hall 1 (by decide)
  have e2 := hall 2 (by decide)
  have e3 := hall 3 (by decide)
  have e4 := hall 4 (by decide)
  have e5 := hall 5 (by decide)
  have e6 := hall 6 (by decide)
  have e7 := hall 7 (by decide)
  have e8 := hall 8 (by decide)
  have e9 := hall 9 (by decide)
  have e10 := hall 10 (by decide)
  have e11 := hall 11 (by decide)
  have e12 := hall 12 (by decide)
  have e13 := hall 13 (by decide)
  have e14 := hall 14 (by decide)
  have e15 := hall 15 (by decide)
  have e16 := hall 16 (by decide)
  have e17 := hall 17 (by decide)
  have e18 := hall 18 (by decide)
  have e19 := hall 19 (by decide)
  have e20 := hall 20 (by decide)
  have e21 := hall 21 (by decide)
  have e22 := hall 22 (by decide)
  have e23 := hall 23 (by decide)
  have e24 := hall 24 (by decide)
  have e25 := hall 25 (by decide)
  have e26 := hall 26 (by decide)
  clear hall
  have hn := hI.2.2 e24
  rw [if_pos e25] at hn
  simp only [e0, e1, e2, e3, e4, e5, e6, e7, e8, e9, e10, e11, e12, e13, e14, e15, e16, e17, e18, e19, e20, e21, e22, e23, e24, e25, e26, sel_true]
  clear e0 e1 e2 e3 e4 e5 e6 e7 e8 e9 e10 e11 e12 e13 e14 e15 e16 e17 e18 e19 e20 e21 e22 e23 e24 e25 e26
  have HN := aM' hn
  have HI := aM' hI.1
  have z0 : W.cell? ⟨γ, 0, none⟩ = some (.string c1) := blk_cell hn.2 0
  have z1 : W.cell? ⟨γ, 1, none⟩ = some (.int .u64 c2) := blk_cell hn.2 1
  have z2 : W.cell? ⟨γ, 2, none⟩ = some (.int .u64 c3) := blk_cell hn.2 2
  have x0 : W.cell? ⟨w.heap.size, 0, none⟩ = some (.string r.f0) := blk_cell hI.1.h0 0
  have x1 : W.cell? ⟨w.heap.size, 1, none⟩ = some (.int .u64 r.f1.f0) := blk_cell hI.1.h0 1
  have x2 : W.cell? ⟨w.heap.size, 2, none⟩ = some (.int .u64 r.f1.f1) := blk_cell hI.1.h0 2
  clear hn hI
  have HRS := HRES
  clear HRES
  by_cases h4 : c4 = 0
  ·
   subst h4
   go_wp2
   all_goals
    go_ret
    exact ⟨congrArg (fun z => Ending.returned (.int .i64 z)) (Eq.trans (by simp [*]) HRS.out), HI.out.hB⟩
  ·
   have b1 : (c4 != 0) = true := by simp [h4]
   go_wp2
   go_ret
   exact ⟨congrArg (fun z => Ending.returned (.int .i64 z)) (Eq.trans (by rw [if_neg h4]) HRS.out), HI.out.hB⟩
end Go.Proofs.YtijfifphcchbbaaDoor.P
namespace Go.Proofs.YtijfifphcchbbaaDoor.P
open Go.RowKit Go.Proofs.YtijfifphcchbbaaDoorW.PrintWords Go.Proofs.YtijfifphcchbbaaDoorW.PrintLast Go.Proofs.YtijfifphcchbbaaDoorW.PrintMore
set_option linter.unusedVariables false
set_option linter.unusedSimpArgs false
set_option linter.unnecessarySimpa false
attribute [local go_sem] sel_true
abbrev entA (e : SEntry) (A : Option Addr) (c : Nat) : Array Value := #[.bool e.f0.f0, .string e.f0.f1, .string e.f0.f2, .int .u64 e.f0.f3.f0, .int .u64 e.f0.f3.f1, .int .u64 e.f1.f0, .slice A e.f1.f1.length c]
abbrev rootA (r : SRoot) : Array Value := #[.string r.f0, .int .u64 r.f1.f0, .int .u64 r.f1.f1, .int .i64 r.f2]
structure UpS (w W : World) (e : SEntry) (A : Option Addr) (c : Nat) (r : SRoot) : Prop where
 hB : Below w.heap.size w W
 h0 : W.heap[w.heap.size]? = some (.cells (entA e A c) 61 (0, 0))
 h1 : W.heap[w.heap.size + 1]? = some (.cells (rootA r) 63 (0, 0))
theorem UpS.lt {w W : World} {e : SEntry} {A : Option Addr} {c : Nat} {r : SRoot} (h : UpS w W e A c r) : w.heap.size + 1 < W.heap.size := blk_lt h.h1
theorem UpS.below {w W W' : World} {e : SEntry} {A : Option Addr} {c : Nat} {r : SRoot} (h : UpS w W e A c r) (hb : Below W.heap.size W W') : UpS w W' e A c r := ⟨h.hB.trans (hb.mono h.hB.size), blk_below h.h0 hb, blk_below h.h1 hb⟩
theorem UpS.put3 {w W : World} {e : SEntry} {A : Option Addr} {c : Nat} {r : SRoot} (h : UpS w W e A c r) {g : Nat} (hg : w.heap.size + 1 < g) (x y z : Value) : UpS w (((W.setCell ⟨g, 0, none⟩ x).setCell ⟨g, 1, none⟩ y).setCell ⟨g, 2, none⟩ z) e A c r :=
 ⟨below_set (below_set (below_set h.hB (by (try dsimp only); omega)) (by (try dsimp only); omega)) (by (try dsimp only); omega), far3 h.h0 (by omega) _ _ _, far3 h.h1 (by omega) _ _ _⟩
theorem UpS.put {w W : World} {e : SEntry} {A : Option Addr} {c : Nat} {r : SRoot} (h : UpS w W e A c r) (x : SRoot) :
  UpS w ((((W.setCell ⟨w.heap.size + 1, 0, none⟩ (.string x.f0)).setCell ⟨w.heap.size + 1, 1, none⟩ (.int .u64 x.f1.f0)).setCell ⟨w.heap.size + 1, 2, none⟩ (.int .u64 x.f1.f1)).setCell ⟨w.heap.size + 1, 3, none⟩ (.int .i64 x.f2)) e A c x := by
 have a1 := blk_put (cs' := rootA ⟨x.f0, r.f1, r.f2⟩) h.h1 0 (.string x.f0) rfl
 have a2 := blk_put (cs' := rootA ⟨x.f0, ⟨x.f1.f0, r.f1.f1⟩, r.f2⟩) a1 1 (.int .u64 x.f1.f0) rfl
 have a3 := blk_put (cs' := rootA ⟨x.f0, x.f1, r.f2⟩) a2 2 (.int .u64 x.f1.f1) rfl
 have a4 := blk_put (cs' := rootA x) a3 3 (.int .i64 x.f2) rfl
 exact ⟨below_set (below_set (below_set (below_set h.hB (by (try dsimp only); omega)) (by (try dsimp only); omega)) (by (try dsimp only); omega)) (by (try dsimp only); omega), blk_far (far3 h.h0 (by omega) _ _ _) (by (try dsimp only); omega) _, a4⟩
theorem root_results {fn : Func} {p u : Nat} (hr : fn.results = #[.cell p 63, .tmp u]) (tmps : Array Value) (W : World) (g : Nat) (r : SRoot) (e : Value) (hp : tmps.getD p undef = .pointer (some ⟨g, 0, none⟩)) (hu : tmps.getD u undef = e) (hg : W.heap[g]? = some (.cells (rootA r) 63 (0, 0))) :
  (results fn tmps).run Tryd.prog W = .ok (.tuple #[.agg (rootA r), e]) W := by
 have hp' : tmps[p]?.getD undef = .pointer (some ⟨g, 0, none⟩) := by simpa using hp
 have hu' : tmps[u]?.getD undef = e := by simpa using hu
 have h1 := run_loadVar_row W g 63 63 (rootA r) (0, 0) _ hg Tryd.underlying63 rfl (by kernel_rfl)
 simp [results, hr, hp', hu', asAddr, h1]
abbrev upR (u : ByteArray × Int × Int × Int × Int) : SRoot := ⟨u.1, ⟨u.2.1, u.2.2.1⟩, u.2.2.2.1⟩
theorem askLeaf_eq (e : SEntry) (he : OkE e) (h : ByteArray) (a b c : Int) : verify_asked_leaf.f h a b c e.f0.f0 e.f0.f1 e.f0.f2 e.f0.f3.f0 e.f0.f3.f1 e.f1.f0 e.f1.f1 = some (if mayLeafI e.f0 = true then 0 else 130) := by
 unfold verify_asked_leaf.f
 rw [tagMayLeaf_eq e.f0 he.id]
 cases mayLeafI e.f0 <;> rfl
set_option maxRecDepth 100000 in
set_option maxHeartbeats 4000000 in
theorem verifyUp.calls (wd : Int) (e : SEntry) (A : Option Addr) (c : Nat) (w : World) (hK : LaidT w) (hr : Kd.C kNode w A e.f1.f1.length e.f1.f1) (hc : e.f1.f1.length ≤ c) (he : OkE e) :
  Calls Tryd.prog 28 #[.int .i64 wd, .agg (entA e A c)] w fun x w' => x = .returned (.tuple #[.agg (rootA (upR (upI wd e))), .int .i64 (upI wd e).2.2.2.2]) ∧ Below w.heap.size w w' := by
 have HK := aM' hK
 have HR := aM' hr
 have HC := aM' hc
 obtain ⟨kl, hkl⟩ := tagLeafNode_ev wd e.f0 he.id he.sa
 have HL := aM' (hkl kl (Nat.le_refl _))
 have HCl := aM' (nodeClimb_eq wd e he)
 have HA := aM' (askLeaf_eq e he ⟨#[]⟩ 0 0 0)
 have HSh := aM' (proofShape_eq wd (e.f1.f1.length : Int) e.f1.f0 e.f1.f1)
 have HU := aM' (show upI wd e = if mayLeafI e.f0 = true then (if shapeN wd (e.f1.f1.length : Int) e.f1.f0 e.f1.f1 = 0 then (if (climbE wd e).2.2.2 = 0 then ((climbE wd e).1, (climbE wd e).2.1, (climbE wd e).2.2.1, (e.f1.f1.length : Int), 0) else (⟨#[]⟩, 0, 0, 0, (climbE wd e).2.2.2)) else (⟨#[]⟩, 0, 0, 0, shapeN wd (e.f1.f1.length : Int) e.f1.f0 e.f1.f1)) else (⟨#[]⟩, 0, 0, 0, 130) from rfl)
 have hll : (e.f1.f1.length : Int) ≤ 9223372036854775807 := by have := he.ls; omega
 clear hK hr hc he hkl
 generalize upI wd e = up at HU ⊢
 generalize hcl : climbE wd e = cl at HCl HU
 obtain ⟨c1, c2, c3, c4⟩ := cl
 clear hcl
 generalize hln : leafNodeI wd e.f0 = ln at HL HCl
 clear hln
 generalize hsh : shapeN wd (e.f1.f1.length : Int) e.f1.f0 e.f1.f1 = sh at HSh HU
 clear hsh
 dsimp only at HU
 go_enter Tryd.func28, Tryd.ntmps28
 go_wp2_with fail
 have HUS := aM' (show UpS w ((w.alloc (.cells (entA e A c) 61)).alloc (.cells (rootA ⟨⟨#[]⟩, ⟨0, 0⟩, 0⟩) 63)) e A c ⟨⟨#[]⟩, ⟨0, 0⟩, 0⟩ from
  ⟨below_alloc (below_alloc (Below.refl _ _) _) _, blk_alloc (blk_new w _) _, by have := blk_new (w.alloc (.cells (entA e A c) 61)) (.cells (rootA ⟨⟨#[]⟩, ⟨0, 0⟩, 0⟩) 63); rwa [World.size_alloc] at this⟩)
 have hU2 := HUS.out.below (below_alloc (Below.refl _ _) (.cells #[.string ⟨#[]⟩, .int .u64 0, .int .u64 0, .int .i64 0, .bool e.f0.f0, .string e.f0.f1, .string e.f0.f2, .int .u64 e.f0.f3.f0, .int .u64 e.f0.f3.f1, .int .u64 e.f1.f0, .slice A e.f1.f1.length c] 134))
 refine (verify_asked_leaf.calls ⟨#[]⟩ 0 0 0 e.f0.f0 e.f0.f1 e.f0.f2 e.f0.f3.f0 e.f0.f3.f1 e.f1.f0 A c e.f1.f1 _ _ (HK.out.below hU2.hB) (Kd.C_below HR.out hU2.hB) HC.out HA.out).mono ?_
 rintro x w1 ⟨rfl, hb⟩
 have hU := hU2.below hb
 clear hU2 hb HUS
 have HUS := aM' hU
 have ce6 : w1.cell? ⟨w.heap.size, 6, none⟩ = some (.slice A e.f1.f1.length c) := blk_cell hU.h0 6
 have ce5 : w1.cell? ⟨w.heap.size, 5, none⟩ = some (.int .u64 e.f1.f0) := blk_cell hU.h0 5
 have cr0 : w1.cell? ⟨w.heap.size + 1, 0, none⟩ = some (.string ⟨#[]⟩) := blk_cell hU.h1 0
 have cr1 : w1.cell? ⟨w.heap.size + 1, 1, none⟩ = some (.int .u64 0) := blk_cell hU.h1 1
 have cr2 : w1.cell? ⟨w.heap.size + 1, 2, none⟩ = some (.int .u64 0) := blk_cell hU.h1 2
 have cr3 : w1.cell? ⟨w.heap.size + 1, 3, none⟩ = some (.int .i64 0) := blk_cell hU.h1 3
 have fr : ∀ i, w1.frozen? ⟨w.heap.size + 1, i, none⟩ = false := fun i => blk_frozen hU.h1 i
 clear hU
 cases hm : mayLeafI e.f0 with
 | false =>
  rw [hm] at HU
  rw [if_neg (by decide)]
  have HUU := aM' (HU.out.trans (if_neg (by decide)))
  clear HU hm
  go_wp2
  rw [HUU.out]
  exact bodyPost_ret (root_results rfl _ _ _ ⟨⟨#[]⟩, ⟨0, 0⟩, 0⟩ _ rfl rfl (HUS.out.put ⟨⟨#[]⟩, ⟨0, 0⟩, 0⟩).h1) rfl ⟨rfl, (HUS.out.put ⟨⟨#[]⟩, ⟨0, 0⟩, 0⟩).hB⟩
 | true =>
  rw [hm] at HU
  rw [if_pos rfl]
  have HUU := aM' (HU.out.trans (if_pos rfl))
  clear HU hm
  go_wp2_with fail
  refine (proof_Shape.calls wd (e.f1.f1.length : Int) e.f1.f0 A c e.f1.f1 _ _ (Kd.C_below HR.out HUS.out.hB) HC.out HSh.out).mono ?_
  rintro x w2 ⟨rfl, hb⟩
  have hU := HUS.out.below hb
  clear HUS hb ce6 ce5 cr0 cr1 cr2 cr3 fr
  have HUS := aM' hU
  have cr0 : w2.cell? ⟨w.heap.size + 1, 0, none⟩ = some (.string ⟨#[]⟩) := blk_cell hU.h1 0
  have cr1 : w2.cell? ⟨w.heap.size + 1, 1, none⟩ = some (.int .u64 0) := blk_cell hU.h1 1
  have cr2 : w2.cell? ⟨w.heap.size + 1, 2, none⟩ = some (.int .u64 0) := blk_cell hU.h1 2
  have cr3 : w2.cell? ⟨w.heap.size + 1, 3, none⟩ = some (.int .i64 0) := blk_cell hU.h1 3
  have fr : ∀ i, w2.frozen? ⟨w.heap.size + 1, i, none⟩ = false := fun i => blk_frozen hU.h1 i
  clear hU
  by_cases hs : sh = 0
  ·
   have HU3 := aM' (HUU.out.trans (if_pos hs))
   subst hs
   clear HUU
   go_wp2_with fail
   refine region_inv (fun l a W => ∃ γ : Nat, a = ({ tmps := #[.int .i64 wd, .agg (entA e A c), undef, .pointer (some ⟨w.heap.size, 0, none⟩), .pointer (some ⟨w.heap.size + 1, 0, none⟩), .int .i64 0, .pointer (some ⟨w.heap.size + 1 + 1, 0, none⟩), .int .i64 0, .int .i64 0, sel (l 15) (.pointer (some ⟨γ, 0, none⟩)) (undef), sel (l 17) (.int .i64 c4) (undef), .agg #[.bool e.f0.f0, .string e.f0.f1, .string e.f0.f2, .int .u64 e.f0.f3.f0, .int .u64 e.f0.f3.f1, .int .u64 e.f1.f0, .slice A e.f1.f1.length c], .agg #[.string ⟨#[]⟩, .int .u64 0, .int .u64 0, .int .i64 0, .bool e.f0.f0, .string e.f0.f1, .string e.f0.f2, .int .u64 e.f0.f3.f0, .int .u64 e.f0.f3.f1, .int .u64 e.f1.f0, .slice A e.f1.f1.length c], .agg #[.string ⟨#[]⟩, .int .u64 0, .int .u64 0, .int .i64 0, .bool e.f0.f0, .string e.f0.f1, .string e.f0.f2, .int .u64 e.f0.f3.f0, .int .u64 e.f0.f3.f1, .int .u64 e.f1.f0, .slice A e.f1.f1.length c], .int .i64 0, .int .i64 0, .bool false, undef, undef, .int .i64 wd, .pointer (some ⟨w.heap.size, 5, none⟩), .pointer (some ⟨w.heap.size, 6, none⟩), .slice A e.f1.f1.length c, .int .i64 (e.f1.f1.length : Int), .pointer (some ⟨w.heap.size, 5, none⟩), .agg #[.int .u64 e.f1.f0, .slice A e.f1.f1.length c], .int .i64 0, .int .i64 0, .bool false, undef, undef, sel (l 12) (.tuple #[.agg #[.string c1, .int .u64 c2, .int .u64 c3], .int .i64 c4]) (undef), sel (l 0) (.int .i64 wd) (undef), sel (l 1) (.int .i64 wd) (undef), sel (l 2) (.pointer (some ⟨w.heap.size, 0, none⟩)) (undef), sel (l 3) (.agg #[.bool e.f0.f0, .string e.f0.f1, .string e.f0.f2, .int .u64 e.f0.f3.f0, .int .u64 e.f0.f3.f1]) (undef), sel (l 4) (.agg #[.string ln.f0, .int .u64 ln.f1.f0, .int .u64 ln.f1.f1]) (undef), sel (l 5) (.pointer (some ⟨w.heap.size, 5, none⟩)) (undef), sel (l 6) (.pointer (some ⟨w.heap.size, 5, none⟩)) (undef), sel (l 7) (.int .u64 e.f1.f0) (undef), sel (l 8) (.pointer (some ⟨w.heap.size, 5, none⟩)) (undef), sel (l 9) (.pointer (some ⟨w.heap.size, 6, none⟩)) (undef), sel (l 10) (.slice A e.f1.f1.length c) (undef), sel (l 11) (.tuple #[.agg #[.string c1, .int .u64 c2, .int .u64 c3], .int .i64 c4]) (undef), sel (l 13) (.agg #[.string c1, .int .u64 c2, .int .u64 c3]) (undef), sel (l 14) (.int .i64 c4) (undef), undef, undef, undef, undef, undef, undef, undef, undef, undef, undef, undef, undef, undef], defers := [] } : Act) ∧ (UpS w W e A c ⟨⟨#[]⟩, ⟨0, 0⟩, 0⟩ ∧ (l 16 = true → l 15 = true) ∧ (l 15 = true → w.heap.size + 1 < γ ∧ W.heap[γ]? = some (.cells (if l 16 = true then #[.string c1, .int .u64 c2, .int .u64 c3] else #[.string ⟨#[]⟩, .int .u64 0, .int .u64 0]) 28 (0, 0))))) 18 rfl rfl (by kernel_rfl) ?h0 ?hend ?hstep
   case h0 => exact ⟨0, rfl, HUS.out.below (below_drew (Below.refl _ _)), (fun h => by cases h), fun h => by cases h⟩
   case hstep =>
    refine rg_cons (rg_cons (rg_cons (rg_cons (rg_cons (rg_cons (rg_cons (rg_cons (rg_cons (rg_cons (rg_cons (rg_cons (rg_cons (rg_cons (rg_cons (rg_cons (rg_cons (rg_cons (rg_nil) ?s0) ?s1) ?s2) ?s3) ?s4) ?s5) ?s6) ?s7) ?s8) ?s9) ?s10) ?s11) ?s12) ?s13) ?s14) ?s15) ?s16) ?s17
    case s0 =>
     refine rg_step rfl ?_
     rintro l a W ⟨γ, rfl, hI⟩ hl hd
     clear hd
     refine rg_val (v := .int .i64 wd) (w' := W) rfl (by go_simp) ?_
     refine ⟨γ, ?_, ?_⟩
     ·
      simp only [Act.put, List.setIfInBounds_toArray, List.set_cons_zero, List.set_cons_succ]; rfl
     ·
      exact hI
    case s1 =>
     refine rg_step rfl ?_
     rintro l a W ⟨γ, rfl, hI⟩ hl hd
     clear hd
     refine rg_val (v := .int .i64 wd) (w' := W) rfl (by go_simp) ?_
     refine ⟨γ, ?_, ?_⟩
     ·
      simp only [Act.put, List.setIfInBounds_toArray, List.set_cons_zero, List.set_cons_succ]; rfl
     ·
      exact hI
    case s2 =>
     refine rg_step rfl ?_
     rintro l a W ⟨γ, rfl, hI⟩ hl hd
     clear hd
     refine rg_val (v := .pointer (some ⟨w.heap.size, 0, none⟩)) (w' := W) rfl (by go_simp) ?_
     refine ⟨γ, ?_, ?_⟩
     ·
      simp only [Act.put, List.setIfInBounds_toArray, List.set_cons_zero, List.set_cons_succ]; rfl
     ·
      exact hI
    case s3 =>
     refine rg_step rfl ?_
     rintro l a W ⟨γ, rfl, hI⟩ hl hd
     have d2 := hd 2 (by decide)
     clear hd
     have x0 := blk_cell (hI.1.h0) 0
     have x1 := blk_cell (hI.1.h0) 1
     have x2 := blk_cell (hI.1.h0) 2
     have x3 := blk_cell (hI.1.h0) 3
     have x4 := blk_cell (hI.1.h0) 4
     simp at x0 x1 x2 x3 x4
     refine rg_val (v := .agg #[.bool e.f0.f0, .string e.f0.f1, .string e.f0.f2, .int .u64 e.f0.f3.f0, .int .u64 e.f0.f3.f1]) (w' := W) rfl (by go_simp) ?_
     refine ⟨γ, ?_, ?_⟩
     ·
      simp only [Act.put, List.setIfInBounds_toArray, List.set_cons_zero, List.set_cons_succ]; rfl
     ·
      exact hI
    case s4 =>
     refine rg_step rfl ?_
     rintro l a W ⟨γ, rfl, hI⟩ hl hd
     have d1 := hd 1 (by decide)
     have d3 := hd 3 (by decide)
     clear hd
     refine rg_call rfl (by go_simp; exact ⟨rfl, rfl⟩) ?_
     refine (tag_LeafNode.calls kl _ _ _ _ _ _ _ _ _ _ (HK.out.below hI.1.hB) HL.out).mono ?_
     rintro x W' ⟨rfl, hb⟩
     refine ⟨_, rfl, γ, ?_, ?_⟩
     ·
      simp only [Act.put, List.setIfInBounds_toArray, List.set_cons_zero, List.set_cons_succ]; rfl
     ·
      exact ⟨hI.1.below hb, hI.2.1, fun h => ⟨(hI.2.2 h).1, blk_below (hI.2.2 h).2 hb⟩⟩
    case s5 =>
     refine rg_step rfl ?_
     rintro l a W ⟨γ, rfl, hI⟩ hl hd
     clear hd
     refine rg_val (v := .pointer (some ⟨w.heap.size, 5, none⟩)) (w' := W) rfl (by go_simp) ?_
     refine ⟨γ, ?_, ?_⟩
     ·
      simp only [Act.put, List.setIfInBounds_toArray, List.set_cons_zero, List.set_cons_succ]; rfl
     ·
      exact hI
    case s6 =>
     refine rg_step rfl ?_
     rintro l a W ⟨γ, rfl, hI⟩ hl hd
     have d5 := hd 5 (by decide)
     clear hd
     refine rg_val (v := .pointer (some ⟨w.heap.size, 5, none⟩)) (w' := W) rfl (by go_simp) ?_
     refine ⟨γ, ?_, ?_⟩
     ·
      simp only [Act.put, List.setIfInBounds_toArray, List.set_cons_zero, List.set_cons_succ]; rfl
     ·
      exact hI
    case s7 =>
     refine rg_step rfl ?_
     rintro l a W ⟨γ, rfl, hI⟩ hl hd
     have d6 := hd 6 (by decide)
     clear hd
     have x5 := blk_cell (hI.1.h0) 5
     simp at x5
     refine rg_val (v := .int .u64 e.f1.f0) (w' := W) rfl (by go_simp) ?_
     refine ⟨γ, ?_, ?_⟩
     ·
      simp only [Act.put, List.setIfInBounds_toArray, List.set_cons_zero, List.set_cons_succ]; rfl
     ·
      exact hI
    case s8 =>
     refine rg_step rfl ?_
     rintro l a W ⟨γ, rfl, hI⟩ hl hd
     clear hd
     refine rg_val (v := .pointer (some ⟨w.heap.size, 5, none⟩)) (w' := W) rfl (by go_simp) ?_
     refine ⟨γ, ?_, ?_⟩
     ·
      simp only [Act.put, List.setIfInBounds_toArray, List.set_cons_zero, List.set_cons_succ]; rfl
     ·
      exact hI
    case s9 =>
     refine rg_step rfl ?_
     rintro l a W ⟨γ, rfl, hI⟩ hl hd
     have d8 := hd 8 (by decide)
     clear hd
     refine rg_val (v := .pointer (some ⟨w.heap.size, 6, none⟩)) (w' := W) rfl (by go_simp) ?_
     refine ⟨γ, ?_, ?_⟩
     ·
      simp only [Act.put, List.setIfInBounds_toArray, List.set_cons_zero, List.set_cons_succ]; rfl
     ·
      exact hI
    case s10 =>
     refine rg_step rfl ?_
     rintro l a W ⟨γ, rfl, hI⟩ hl hd
     have d9 := hd 9 (by decide)
     clear hd
     have x6 := blk_cell (hI.1.h0) 6
     simp at x6
     refine rg_val (v := .slice A e.f1.f1.length c) (w' := W) rfl (by go_simp) ?_
     refine ⟨γ, ?_, ?_⟩
     ·
      simp only [Act.put, List.setIfInBounds_toArray, List.set_cons_zero, List.set_cons_succ]; rfl
     ·
      exact hI
    case s11 =>
     refine rg_step rfl ?_
     rintro l a W ⟨γ, rfl, hI⟩ hl hd
     have d0 := hd 0 (by decide)
     have d4 := hd 4 (by decide)
     have d7 := hd 7 (by decide)
     have d10 := hd 10 (by decide)
     clear hd
     refine rg_call rfl (by go_simp; exact ⟨rfl, rfl⟩) ?_
     refine (node_Climb.calls _ _ _ _ _ A c e.f1.f1 _ _ _ _ _ ((LaidT.one HK.out).below hI.1.hB) (Kd.C_below HR.out hI.1.hB) HC.out HCl.out).mono ?_
     rintro x W' ⟨rfl, hb⟩
     refine ⟨_, rfl, γ, ?_, ?_⟩
     ·
      simp only [Act.put, List.setIfInBounds_toArray, List.set_cons_zero, List.set_cons_succ]; rfl
     ·
      exact ⟨hI.1.below hb, hI.2.1, fun h => ⟨(hI.2.2 h).1, blk_below (hI.2.2 h).2 hb⟩⟩
    case s12 =>
     refine rg_step rfl ?_
     rintro l a W ⟨γ, rfl, hI⟩ hl hd
     have d11 := hd 11 (by decide)
     clear hd
     refine rg_val (v := .tuple #[.agg #[.string c1, .int .u64 c2, .int .u64 c3], .int .i64 c4]) (w' := W) rfl (by go_simp) ?_
     refine ⟨γ, ?_, ?_⟩
     ·
      simp only [Act.put, List.setIfInBounds_toArray, List.set_cons_zero, List.set_cons_succ]; rfl
     ·
      exact hI
    case s13 =>
     refine rg_step rfl ?_
     rintro l a W ⟨γ, rfl, hI⟩ hl hd
     have d12 := hd 12 (by decide)
     clear hd
     refine rg_val (v := .agg #[.string c1, .int .u64 c2, .int .u64 c3]) (w' := W) rfl (by go_simp) ?_
     refine ⟨γ, ?_, ?_⟩
     ·
      simp only [Act.put, List.setIfInBounds_toArray, List.set_cons_zero, List.set_cons_succ]; rfl
     ·
      exact hI
    case s14 =>
     refine rg_step rfl ?_
     rintro l a W ⟨γ, rfl, hI⟩ hl hd
     have d12 := hd 12 (by decide)
     clear hd
     refine rg_val (v := .int .i64 c4) (w' := W) rfl (by go_simp) ?_
     refine ⟨γ, ?_, ?_⟩
     ·
      simp only [Act.put, List.setIfInBounds_toArray, List.set_cons_zero, List.set_cons_succ]; rfl
     ·
      exact hI
    case s15 =>
     refine rg_step rfl ?_
     rintro l a W ⟨γ, rfl, hI⟩ hl hd
     clear hd
     refine rg_val (v := .pointer (some ⟨W.heap.size, 0, none⟩)) (w' := W.alloc (.cells #[.string ⟨#[]⟩, .int .u64 0, .int .u64 0] 28)) rfl (by go_simp) ?_
     refine ⟨W.heap.size, ?_, ?_⟩
     ·
      simp only [Act.put, List.setIfInBounds_toArray, List.set_cons_zero, List.set_cons_succ]; rfl
     ·
      exact ⟨hI.1.below (below_alloc (Below.refl _ _) _), fun _ => rfl, fun _ => ⟨hI.1.lt, by rw [if_neg (show ¬ upd l 15 16 = true from fun h => by have h : l 16 = true := h; rw [hI.2.1 h] at hl; cases hl)]; exact blk_new W _⟩⟩
    case s16 =>
     refine rg_step rfl ?_
     rintro l a W ⟨γ, rfl, hI⟩ hl hd
     have d13 := hd 13 (by decide)
     have d15 := hd 15 (by decide)
     clear hd
     have hg := hI.2.2 d15
     rw [if_neg (by rw [hl]; decide)] at hg
     have y0 := blk_cell hg.2 0
     have y1 := blk_cell hg.2 1
     have y2 := blk_cell hg.2 2
     have yf := fun i => blk_frozen hg.2 i
     simp at y0 y1 y2
     refine rg_skip rfl (by go_simp; rfl) ?_
     refine ⟨γ, ?_, ?_⟩
     ·
      simp only [Act.put, List.setIfInBounds_toArray, List.set_cons_zero, List.set_cons_succ]; rfl
     ·
      exact ⟨hI.1.put3 hg.1 _ _ _, fun _ => d15, fun _ => ⟨hg.1, put3 (z := ⟨⟨#[]⟩, ⟨0, 0⟩⟩) hg.2 ⟨c1, ⟨c2, c3⟩⟩⟩⟩
    case s17 =>
     refine rg_step rfl ?_
     rintro l a W ⟨γ, rfl, hI⟩ hl hd
     have d14 := hd 14 (by decide)
     clear hd
     refine rg_val (v := .int .i64 c4) (w' := W) rfl (by go_simp) ?_
     refine ⟨γ, ?_, ?_⟩
     ·
      simp only [Act.put, List.setIfInBounds_toArray, List.set_cons_zero, List.set_cons_succ]; rfl
     ·
      exact hI
   case hend =>
    rintro l a W ⟨γ, rfl, hI⟩ hall
    have e0 := hall 0 (by decide)
    have e1 := hall 1 (by decide)
    have e2 := hall 2 (by decide)
    have e3 := hall 3 (by decide)
    have e4 := hall 4 (by decide)
    have e5 := hall 5 (by decide)
    have e6 := hall 6 (by decide)
    have e7 := hall 7 (by decide)
    have e8 := hall 8 (by decide)
    have e9 := hall 9 (by decide)
    have e10 := hall 10 (by decide)
    have e11 := hall 11 (by decide)
    have e12 := hall 12 (by decide)
    have e13 := hall 13 (by decide)
    have e14 := hall 14 (by decide)
    have e15 := hall 15 (by decide)
    have e16 := hall 16 (by decide)
    have e17 := hall 17 (by decide)
    clear hall
    have hn := hI.2.2 e15
    rw [if_pos e16] at hn
    simp only [e0, e1, e2, e3, e4, e5, e6, e7, e8, e9, e10, e11, e12, e13, e14, e15, e16, e17, sel_true]
    clear e0 e1 e2 e3 e4 e5 e6 e7 e8 e9 e10 e11 e12 e13 e14 e15 e16 e17
    have hU := hI.1
    have HUS2 := aM' hU
    have z0 : W.cell? ⟨γ, 0, none⟩ = some (.string c1) := blk_cell hn.2 0
    have z1 : W.cell? ⟨γ, 1, none⟩ = some (.int .u64 c2) := blk_cell hn.2 1
    have z2 : W.cell? ⟨γ, 2, none⟩ = some (.int .u64 c3) := blk_cell hn.2 2
    have ce6 : W.cell? ⟨w.heap.size, 6, none⟩ = some (.slice A e.f1.f1.length c) := blk_cell hU.h0 6
    have cr0 : W.cell? ⟨w.heap.size + 1, 0, none⟩ = some (.string ⟨#[]⟩) := blk_cell hU.h1 0
    have cr1 : W.cell? ⟨w.heap.size + 1, 1, none⟩ = some (.int .u64 0) := blk_cell hU.h1 1
    have cr2 : W.cell? ⟨w.heap.size + 1, 2, none⟩ = some (.int .u64 0) := blk_cell hU.h1 2
    have cr3 : W.cell? ⟨w.heap.size + 1, 3, none⟩ = some (.int .i64 0) := blk_cell hU.h1 3
    have fr : ∀ i, W.frozen? ⟨w.heap.size + 1, i, none⟩ = false := fun i => blk_frozen hU.h1 i
    clear hn hI hU HUS
    by_cases h4 : c4 = 0
    ·
     have HU4 := aM' (HU3.out.trans (if_pos h4))
     subst h4
     clear HU3
     go_wp2
     rw [HU4.out]
     exact bodyPost_ret (root_results rfl _ _ _ ⟨c1, ⟨c2, c3⟩, (e.f1.f1.length : Int)⟩ _ rfl rfl (HUS2.out.put ⟨c1, ⟨c2, c3⟩, (e.f1.f1.length : Int)⟩).h1) rfl ⟨rfl, (HUS2.out.put ⟨c1, ⟨c2, c3⟩, (e.f1.f1.length : Int)⟩).hB⟩
    ·
     have HU4 := aM' (HU3.out.trans (if_neg h4))
     have b1 : (c4 != 0) = true := by simp [h4]
     clear HU3 h4
     go_wp2
     rw [HU4.out]
     exact bodyPost_ret (root_results rfl _ _ _ ⟨⟨#[]⟩, ⟨0, 0⟩, 0⟩ _ rfl rfl (HUS2.out.put ⟨⟨#[]⟩, ⟨0, 0⟩, 0⟩).h1) rfl ⟨rfl, (HUS2.out.put ⟨⟨#[]⟩, ⟨0, 0⟩, 0⟩).hB⟩
  ·
   have HU3 := aM' (HUU.out.trans (if_neg hs))
   have b1 : (sh != 0) = true := by simp [hs]
   clear HUU hs
   go_wp2
   rw [HU3.out]
   exact bodyPost_ret (root_results rfl _ _ _ ⟨⟨#[]⟩, ⟨0, 0⟩, 0⟩ _ rfl rfl (HUS.out.put ⟨⟨#[]⟩, ⟨0, 0⟩, 0⟩).h1) rfl ⟨rfl, (HUS.out.put ⟨⟨#[]⟩, ⟨0, 0⟩, 0⟩).hB⟩
def verify_Up.f (a0 : Int) (a1_0 : Bool) (a1_1 a1_2 : ByteArray) (a1_3 a1_4 a1_5 : Int) (l : List SNode) : Option (ByteArray × Int × Int × Int × Int) :=
 if (a1_1.size ≤ 1000000 ∧ a1_2.size ≤ 1000000 ∧ l.length ≤ 9223372036854775807) ∧ ((0 ≤ a1_3 ∧ a1_3 < 18446744073709551616) ∧ (0 ≤ a1_4 ∧ a1_4 < 18446744073709551616) ∧ (0 ≤ a1_5 ∧ a1_5 < 18446744073709551616)) ∧ ∀ x ∈ l, (0 ≤ x.f1.f0 ∧ x.f1.f0 < 18446744073709551616) ∧ (0 ≤ x.f1.f1 ∧ x.f1.f1 < 18446744073709551616) then some (upI a0 ⟨⟨a1_0, a1_1, a1_2, ⟨a1_3, a1_4⟩⟩, ⟨a1_5, l⟩⟩) else none
theorem verify_Up.calls (a0 : Int) (a1_0 : Bool) (a1_1 a1_2 : ByteArray) (a1_3 a1_4 a1_5 : Int) (A : Option Addr) (c : Nat) (l : List SNode) (r1 : ByteArray) (r2 r3 r4 r5 : Int) (w : World) (hK : LaidT w) (hr : Kd.C kNode w A l.length l) (hc : l.length ≤ c) (h : verify_Up.f a0 a1_0 a1_1 a1_2 a1_3 a1_4 a1_5 l = some (r1, r2, r3, r4, r5)) :
  Calls Tryd.prog 28 #[.int .i64 a0, .agg #[.bool a1_0, .string a1_1, .string a1_2, .int .u64 a1_3, .int .u64 a1_4, .int .u64 a1_5, .slice A l.length c]] w fun e w' => e = .returned (.tuple #[.agg #[.string r1, .int .u64 r2, .int .u64 r3, .int .i64 r4], .int .i64 r5]) ∧ Below w.heap.size w w' := by
 unfold verify_Up.f at h
 split at h
 ·
  rename_i hh
  have h2 := Option.some.inj h
  refine (verifyUp.calls a0 ⟨⟨a1_0, a1_1, a1_2, ⟨a1_3, a1_4⟩⟩, ⟨a1_5, l⟩⟩ A c w hK hr hc ⟨hh.1.1, hh.1.2.1, ⟨hh.2.1.1, hh.2.1.2.1⟩, hh.2.1.2.2, fun x hx => ⟨(hh.2.2 x hx).1, (hh.2.2 x hx).2⟩, hh.1.2.2⟩).mono ?_
  rintro e w' ⟨rfl, hb⟩
  rw [h2]
  exact ⟨rfl, hb⟩
 ·
  cases h
end Go.Proofs.YtijfifphcchbbaaDoor.P
namespace Go.Proofs.YtijfifphcchbbaaDoor.P
open Go.RowKit Go.Proofs.YtijfifphcchbbaaDoorW.PrintWords Go.Proofs.YtijfifphcchbbaaDoorW.PrintLast Go.Proofs.YtijfifphcchbbaaDoorW.PrintMore
set_option linter.unusedVariables false
set_option linter.unusedSimpArgs false
set_option linter.unnecessarySimpa false
theorem askRoot_ev (r : SRoot) (e : SEntry) : Ev (fun k => verify_asked_root.f k r.f0 r.f1.f0 r.f1.f1 r.f2 e.f0.f0 e.f0.f1 e.f0.f2 e.f0.f3.f0 e.f0.f3.f1 e.f1.f0 e.f1.f1) (mayRI r) := by
 unfold verify_asked_root.f
 exact Ev.bind (verifyMay_ev r) (Ev.now _)
theorem askShape_eq (r : SRoot) (e : SEntry) : verify_asked_shape.f r.f0 r.f1.f0 r.f1.f1 r.f2 e.f0.f0 e.f0.f1 e.f0.f2 e.f0.f3.f0 e.f0.f3.f1 e.f1.f0 e.f1.f1 = some (shapeN (r.f0.size : Int) r.f2 e.f1.f0 e.f1.f1) := by
 unfold verify_asked_shape.f
 rw [proofShape_eq]; rfl
set_option maxRecDepth 100000 in
set_option maxHeartbeats 4000000 in
theorem check.calls (r : SRoot) (e : SEntry) (A : Option Addr) (c : Nat) (w : World) (hK : LaidT w) (hr : Kd.C kNode w A e.f1.f1.length e.f1.f1) (hc : e.f1.f1.length ≤ c) (he : OkE e) :
  Calls Tryd.prog 29 #[.agg (rootA r), .agg (entA e A c)] w fun x w' => x = .returned (.int .i64 (checkI r e)) ∧ Below w.heap.size w w' := by
 have HK := aM' hK
 have HR := aM' hr
 have HC := aM' hc
 have HE := aM' he
 obtain ⟨kr, hkr⟩ := askRoot_ev r e
 have HRo := aM' (hkr kr (Nat.le_refl _))
 have HLe := aM' (askLeaf_eq e he r.f0 r.f1.f0 r.f1.f1 r.f2)
 have HSh := aM' (askShape_eq r e)
 obtain ⟨res, hres⟩ : ∃ res, (if (climbE (r.f0.size : Int) e).2.2.2 = 0 then (if (climbE (r.f0.size : Int) e).1.toList = r.f0.toList ∧ (climbE (r.f0.size : Int) e).2.1 = r.f1.f0 ∧ (climbE (r.f0.size : Int) e).2.2.1 = r.f1.f1 then 0 else 160) else (climbE (r.f0.size : Int) e).2.2.2) = res := ⟨_, rfl⟩
 have HCk := aM' (show checkI r e = if mayRI r = 0 then (if mayLeafI e.f0 = true then (if shapeN (r.f0.size : Int) r.f2 e.f1.f0 e.f1.f1 = 0 then res else shapeN (r.f0.size : Int) r.f2 e.f1.f0 e.f1.f1) else 130) else mayRI r by rw [← hres]; rfl)
 have HRes := aM' hres
 clear hK hr hc he hkr hres
 generalize checkI r e = ck at HCk ⊢
 generalize mayRI r = mr at HRo HCk
 generalize shapeN (r.f0.size : Int) r.f2 e.f1.f0 e.f1.f1 = sh at HSh HCk
 have i0 : ∀ (f0 f1 f2 f3 : Value) (w : World), (Instr.index 137 (.agg #[f0, f1, f2, f3]) (.int .i64 0)).run Tryd.prog w = .ok f0 w := fun _ _ _ _ _ => by kernel_rfl
 have i1 : ∀ (f0 f1 f2 f3 : Value) (w : World), (Instr.index 137 (.agg #[f0, f1, f2, f3]) (.int .i64 1)).run Tryd.prog w = .ok f1 w := fun _ _ _ _ _ => by kernel_rfl
 have i2 : ∀ (f0 f1 f2 f3 : Value) (w : World), (Instr.index 137 (.agg #[f0, f1, f2, f3]) (.int .i64 2)).run Tryd.prog w = .ok f2 w := fun _ _ _ _ _ => by kernel_rfl
 have i3 : ∀ (f0 f1 f2 f3 : Value) (w : World), (Instr.index 137 (.agg #[f0, f1, f2, f3]) (.int .i64 3)).run Tryd.prog w = .ok f3 w := fun _ _ _ _ _ => by kernel_rfl
 go_enter Tryd.func29, Tryd.ntmps29
 go_wp2
 refine wp_loop_rounds 5 ?_
 rw [rounds_succ]
 by_cases h0 : mr = 0
 ·
  have m0 : (mr != 0) = false := by simp [h0]
  go_wp2_with (go_at_call 79; refine (verify_asked_root.calls kr r.f0 r.f1.f0 r.f1.f1 r.f2 e.f0.f0 e.f0.f1 e.f0.f2 e.f0.f3.f0 e.f0.f3.f1 e.f1.f0 A c e.f1.f1 mr _ (Kd.C_below HR.out (by repeat (first | exact Below.refl _ _ | apply below_alloc))) HC.out HRo.out).mono ?_; rintro x w1 ⟨rfl, hb1⟩)
  have HB1 : Aside0 (Below w.heap.size w w1) := ⟨Below.trans (by repeat (first | exact Below.refl _ _ | apply below_alloc)) (hb1.mono (Below.size (by repeat (first | exact Below.refl _ _ | apply below_alloc))))⟩
  clear hb1
  go_wp2
  rw [rounds_succ]
  by_cases h1 : mayLeafI e.f0 = true
  ·
   have m1 : ((if mayLeafI e.f0 = true then (0 : Int) else 130) != 0) = false := by rw [if_pos h1]; rfl
   go_wp2_with (go_at_call 77; refine (verify_asked_leaf.calls r.f0 r.f1.f0 r.f1.f1 r.f2 e.f0.f0 e.f0.f1 e.f0.f2 e.f0.f3.f0 e.f0.f3.f1 e.f1.f0 A c e.f1.f1 _ _ (HK.out.below HB1.out) (Kd.C_below HR.out HB1.out) HC.out HLe.out).mono ?_; rintro x w2 ⟨rfl, hb2⟩)
   have HB2 : Aside0 (Below w.heap.size w w2) := ⟨HB1.out.trans (hb2.mono HB1.out.size)⟩
   clear hb2
   go_wp2
   rw [rounds_succ]
   by_cases h2 : sh = 0
   ·
    have m2 : (sh != 0) = false := by simp [h2]
    go_wp2_with (go_at_call 80; refine (verify_asked_shape.calls r.f0 r.f1.f0 r.f1.f1 r.f2 e.f0.f0 e.f0.f1 e.f0.f2 e.f0.f3.f0 e.f0.f3.f1 e.f1.f0 A c e.f1.f1 _ _ (Kd.C_below HR.out HB2.out) HC.out HSh.out).mono ?_; rintro x w3 ⟨rfl, hb3⟩)
    have HB3 : Aside0 (Below w.heap.size w w3) := ⟨HB2.out.trans (hb3.mono HB2.out.size)⟩
    clear hb3
    go_wp2
    rw [rounds_succ]
    by_cases h3 : res = 0
    ·
     have m3 : (res != 0) = false := by simp [h3]
     go_wp2_with (go_at_call 81; refine (askClimb.calls r e A c _ (HK.out.below HB3.out) (Kd.C_below HR.out HB3.out) HC.out HE.out res HRes.out).mono ?_; rintro x w4 ⟨rfl, hb4⟩)
     have HB4 : Aside0 (Below w.heap.size w w4) := ⟨HB3.out.trans (hb4.mono HB3.out.size)⟩
     clear hb4
     go_wp2
     rw [rounds_succ]
     go_wp2
     go_ret
     exact ⟨by rw [HCk.out, if_pos h0, if_pos h1, if_pos h2, h3]; rfl, HB4.out⟩
    ·
     have m3 : (res != 0) = true := by simp [h3]
     go_wp2_with (go_at_call 81; refine (askClimb.calls r e A c _ (HK.out.below HB3.out) (Kd.C_below HR.out HB3.out) HC.out HE.out res HRes.out).mono ?_; rintro x w4 ⟨rfl, hb4⟩)
     have HB4 : Aside0 (Below w.heap.size w w4) := ⟨HB3.out.trans (hb4.mono HB3.out.size)⟩
     clear hb4
     go_wp2
     go_ret
     exact ⟨by rw [HCk.out, if_pos h0, if_pos h1, if_pos h2]; rfl, HB4.out⟩
   ·
    have m2 : (sh != 0) = true := by simp [h2]
    go_wp2_with (go_at_call 80; refine (verify_asked_shape.calls r.f0 r.f1.f0 r.f1.f1 r.f2 e.f0.f0 e.f0.f1 e.f0.f2 e.f0.f3.f0 e.f0.f3.f1 e.f1.f0 A c e.f1.f1 _ _ (Kd.C_below HR.out HB2.out) HC.out HSh.out).mono ?_; rintro x w3 ⟨rfl, hb3⟩)
    have HB3 : Aside0 (Below w.heap.size w w3) := ⟨HB2.out.trans (hb3.mono HB2.out.size)⟩
    clear hb3
    go_wp2
    go_ret
    exact ⟨by rw [HCk.out, if_pos h0, if_pos h1, if_neg h2]; rfl, HB3.out⟩
  ·
   have m1 : ((if mayLeafI e.f0 = true then (0 : Int) else 130) != 0) = true := by rw [if_neg h1]; rfl
   go_wp2_with (go_at_call 77; refine (verify_asked_leaf.calls r.f0 r.f1.f0 r.f1.f1 r.f2 e.f0.f0 e.f0.f1 e.f0.f2 e.f0.f3.f0 e.f0.f3.f1 e.f1.f0 A c e.f1.f1 _ _ (HK.out.below HB1.out) (Kd.C_below HR.out HB1.out) HC.out HLe.out).mono ?_; rintro x w2 ⟨rfl, hb2⟩)
   have HB2 : Aside0 (Below w.heap.size w w2) := ⟨HB1.out.trans (hb2.mono HB1.out.size)⟩
   clear hb2
   go_wp2
   go_ret
   exact ⟨by rw [HCk.out, if_pos h0, if_neg h1]; rfl, HB2.out⟩
 ·
  have m0 : (mr != 0) = true := by simp [h0]
  go_wp2_with (go_at_call 79; refine (verify_asked_root.calls kr r.f0 r.f1.f0 r.f1.f1 r.f2 e.f0.f0 e.f0.f1 e.f0.f2 e.f0.f3.f0 e.f0.f3.f1 e.f1.f0 A c e.f1.f1 mr _ (Kd.C_below HR.out (by repeat (first | exact Below.refl _ _ | apply below_alloc))) HC.out HRo.out).mono ?_; rintro x w1 ⟨rfl, hb1⟩)
  have HB1 : Aside0 (Below w.heap.size w w1) := ⟨Below.trans (by repeat (first | exact Below.refl _ _ | apply below_alloc)) (hb1.mono (Below.size (by repeat (first | exact Below.refl _ _ | apply below_alloc))))⟩
  clear hb1
  go_wp2
  go_ret
  exact ⟨by rw [HCk.out, if_neg h0]; rfl, HB1.out⟩
def verify_Check.f (a0_0 : ByteArray) (a0_1 a0_2 a0_3 : Int) (a1_0 : Bool) (a1_1 a1_2 : ByteArray) (a1_3 a1_4 a1_5 : Int) (l : List SNode) : Option Int :=
 if (a1_1.size ≤ 1000000 ∧ a1_2.size ≤ 1000000 ∧ l.length ≤ 9223372036854775807) ∧ ((0 ≤ a1_3 ∧ a1_3 < 18446744073709551616) ∧ (0 ≤ a1_4 ∧ a1_4 < 18446744073709551616) ∧ (0 ≤ a1_5 ∧ a1_5 < 18446744073709551616)) ∧ ∀ x ∈ l, (0 ≤ x.f1.f0 ∧ x.f1.f0 < 18446744073709551616) ∧ (0 ≤ x.f1.f1 ∧ x.f1.f1 < 18446744073709551616) then some (checkI ⟨a0_0, ⟨a0_1, a0_2⟩, a0_3⟩ ⟨⟨a1_0, a1_1, a1_2, ⟨a1_3, a1_4⟩⟩, ⟨a1_5, l⟩⟩) else none
theorem verify_Check.calls (a0_0 : ByteArray) (a0_1 a0_2 a0_3 : Int) (a1_0 : Bool) (a1_1 a1_2 : ByteArray) (a1_3 a1_4 a1_5 : Int) (A : Option Addr) (c : Nat) (l : List SNode) (r : Int) (w : World) (hK : LaidT w) (hr : Kd.C kNode w A l.length l) (hc : l.length ≤ c) (h : verify_Check.f a0_0 a0_1 a0_2 a0_3 a1_0 a1_1 a1_2 a1_3 a1_4 a1_5 l = some r) :
  Calls Tryd.prog 29 #[.agg #[.string a0_0, .int .u64 a0_1, .int .u64 a0_2, .int .i64 a0_3], .agg #[.bool a1_0, .string a1_1, .string a1_2, .int .u64 a1_3, .int .u64 a1_4, .int .u64 a1_5, .slice A l.length c]] w fun e w' => e = .returned (.int .i64 r) ∧ Below w.heap.size w w' := by
 unfold verify_Check.f at h
 split at h
 ·
  rename_i hh
  obtain rfl := Option.some.inj h
  exact check.calls ⟨a0_0, ⟨a0_1, a0_2⟩, a0_3⟩ ⟨⟨a1_0, a1_1, a1_2, ⟨a1_3, a1_4⟩⟩, ⟨a1_5, l⟩⟩ A c w hK hr hc ⟨hh.1.1, hh.1.2.1, ⟨hh.2.1.1, hh.2.1.2.1⟩, hh.2.1.2.2, fun x hx => ⟨(hh.2.2 x hx).1, (hh.2.2 x hx).2⟩, hh.1.2.2⟩
 ·
  exact absurd h (by simp)
theorem verifyCheck_eq (r : SRoot) (e : SEntry) (h : OkE e) : verify_Check.f r.f0 r.f1.f0 r.f1.f1 r.f2 e.f0.f0 e.f0.f1 e.f0.f2 e.f0.f3.f0 e.f0.f3.f1 e.f1.f0 e.f1.f1 = some (checkI r e) := by
 unfold verify_Check.f
 rw [if_pos ⟨⟨h.id, h.sa, h.ls⟩, ⟨h.ub.h0, h.ub.h1, h.p⟩, fun x hx => ⟨(h.us x hx).h0, (h.us x hx).h1⟩⟩]
end Go.Proofs.YtijfifphcchbbaaDoor.P
namespace Go.Proofs.YtijfifphcchbbaaDoor.P
open Go.RowKit Go.Proofs.YtijfifphcchbbaaDoorW.PrintWords Go.Proofs.YtijfifphcchbbaaDoorW.PrintLast Go.Proofs.YtijfifphcchbbaaDoorW.PrintMore
set_option linter.unusedVariables false
set_option linter.unusedSimpArgs false
set_option linter.unnecessarySimpa false
def aL : SLeaf := ⟨false, ⟨#[97]⟩, ⟨#[115]⟩, ⟨0, 9⟩⟩
def oL : SLeaf := ⟨false, ⟨#[97]⟩, ⟨#[115]⟩, ⟨0, 10⟩⟩
def zL : SLeaf := ⟨false, ⟨#[]⟩, ⟨#[]⟩, ⟨0, 0⟩⟩
theorem aL_may : mayLeafI aL = true := by decide +kernel
theorem oL_may : mayLeafI oL = true := by decide +kernel
theorem zL_may : mayLeafI zL = false := by decide +kernel
def hB : ByteArray := dgI 8 (leafTextI aL)
def oB : ByteArray := dgI 8 (leafTextI oL)
theorem hB_size : hB.size = 8 := dgI_size 8 _ (by decide) (by decide)
theorem oB_size : oB.size = 8 := dgI_size 8 _ (by decide) (by decide)
theorem aL_node : leafNodeI 8 aL = ⟨hB, ⟨0, 9⟩⟩ := by unfold leafNodeI; rw [if_pos ⟨by decide, aL_may⟩]; rfl
theorem oL_node : leafNodeI 8 oL = ⟨oB, ⟨0, 10⟩⟩ := by unfold leafNodeI; rw [if_pos ⟨by decide, oL_may⟩]; rfl
theorem of8 (b : ByteArray) (h : b.size = 8) (u : SU128) : nodeOf 8 ⟨b, u⟩ = true := by unfold nodeOf; rw [h]; rfl
theorem climb0 (b : ByteArray) (h : b.size = 8) (u : SU128) : climbI 8 ⟨b, u⟩ 0 [] = (b, u.f0, u.f1, 0) := by
 unfold climbI; rw [if_pos ⟨of8 b h u, rfl⟩, if_neg (by decide)]; rfl
theorem shape0 : shapeN 8 0 0 [] = 0 := by decide
abbrev aE : SEntry := ⟨aL, ⟨0, []⟩⟩
abbrev oE : SEntry := ⟨oL, ⟨0, []⟩⟩
abbrev zE : SEntry := ⟨zL, ⟨0, []⟩⟩
abbrev aR : SRoot := ⟨hB, ⟨0, 9⟩, 0⟩
abbrev hR : SRoot := ⟨hB, ⟨0, 9⟩, 64⟩
theorem hB_int : ((aR.f0.size : Nat) : Int) = 8 := by show ((hB.size : Nat) : Int) = 8; rw [hB_size]; rfl
theorem aR_may : mayRI aR = 0 := by unfold mayRI; rw [hB_int]; decide
theorem aw_ok : checkI aR aE = 0 := by
 unfold checkI
 rw [if_pos aR_may, if_pos aL_may, hB_int]
 have hc : climbE 8 aE = (hB, 0, 9, 0) := by unfold climbE; rw [aL_node]; exact climb0 hB hB_size _
 rw [if_pos shape0, hc, if_pos rfl, if_pos ⟨rfl, rfl, rfl⟩]
theorem aw_other : checkI aR oE = 160 := by
 unfold checkI
 rw [if_pos aR_may, if_pos oL_may, hB_int]
 have hc : climbE 8 oE = (oB, 0, 10, 0) := by unfold climbE; rw [oL_node]; exact climb0 oB oB_size _
 rw [if_pos shape0, hc, if_pos rfl, if_neg (fun h => absurd h.2.2 (by decide))]
theorem aw_high : checkI hR aE = 120 := by
 have hm : mayRI hR = 120 := by unfold mayRI; rw [if_pos (.inr (by decide))]
 unfold checkI; rw [hm, if_neg (by decide)]
theorem aw_none : checkI aR zE = 130 := by
 unfold checkI
 rw [if_pos aR_may, if_neg (by rw [zL_may]; decide)]
theorem aw_up : upI 8 aE = (hB, 0, 9, 0, 0) := by
 have hc : climbE 8 aE = (hB, 0, 9, 0) := by unfold climbE; rw [aL_node]; exact climb0 hB hB_size _
 have hs : shapeN 8 ((aE.f1.f1.length : Nat) : Int) aE.f1.f0 aE.f1.f1 = 0 := shape0
 unfold upI
 rw [if_pos aL_may, if_pos hs, hc, if_pos rfl]; rfl
set_option maxRecDepth 100000 in
set_option maxHeartbeats 4000000 in
theorem awake17.calls (w : World) (hK : LaidT w) : Calls Tryd.prog 26 #[] w fun e w' => e = .returned (.bool true) ∧ Below w.heap.size w w' := by
 have HK := aM' hK
 obtain ⟨k1, hk1⟩ := tagLeafNode_ev 8 aL (by decide) (by decide)
 rw [aL_node] at hk1
 have J1 := aM' (hk1 k1 (Nat.le_refl _))
 have C1 := aM' (show verify_Check.f hB 0 9 0 false ⟨#[97]⟩ ⟨#[115]⟩ 0 9 0 [] = some 0 by unfold verify_Check.f; rw [if_pos (by decide)]; exact congrArg some aw_ok)
 have C2 := aM' (show verify_Check.f hB 0 9 0 false ⟨#[97]⟩ ⟨#[115]⟩ 0 10 0 [] = some 160 by unfold verify_Check.f; rw [if_pos (by decide)]; exact congrArg some aw_other)
 have C3 := aM' (show verify_Check.f hB 0 9 64 false ⟨#[97]⟩ ⟨#[115]⟩ 0 9 0 [] = some 120 by unfold verify_Check.f; rw [if_pos (by decide)]; exact congrArg some aw_high)
 have C4 := aM' (show verify_Check.f hB 0 9 0 false ⟨#[]⟩ ⟨#[]⟩ 0 0 0 [] = some 130 by unfold verify_Check.f; rw [if_pos (by decide)]; exact congrArg some aw_none)
 have U1 := aM' (show verify_Up.f 8 false ⟨#[97]⟩ ⟨#[115]⟩ 0 9 0 [] = some (hB, 0, 9, 0, 0) by unfold verify_Up.f; rw [if_pos (by decide)]; exact congrArg some aw_up)
 clear hK hk1
 go_enter Tryd.func26, Tryd.ntmps26
 have HB0 := aM' (Below.refl w.heap.size w)
 go_upto_region 2 with (fail)
 obtain ⟨W1, hW⟩ : ∃ V, V = w.alloc (.cells #[.bool false, .string ⟨#[97]⟩, .string ⟨#[115]⟩, .int .u64 0, .int .u64 9] 57) := ⟨_, rfl⟩
 rw [← hW]
 have hg : Below w.heap.size w W1 := by rw [hW]; exact below_alloc (Below.refl _ _) _
 have hBn := HB0.out.trans (hg.mono HB0.out.size)
 have hb1 : W1.heap[w.heap.size]? = some (.cells #[.bool false, .string ⟨#[97]⟩, .string ⟨#[115]⟩, .int .u64 0, .int .u64 9] 57 (0, 0)) := by rw [hW]; exact blk_new _ _
 generalize w.heap.size = b1 at hb1 ⊢
 clear hg hW
 have Hb1 := aM' hb1
 clear hb1
 have HB1 := aM' hBn
 clear hBn HB0
 have x0 : W1.cell? ⟨b1, 0, none⟩ = some (.bool false) := blk_cell Hb1.out 0
 have x1 : W1.cell? ⟨b1, 1, none⟩ = some (.string ⟨#[97]⟩) := blk_cell Hb1.out 1
 have x2 : W1.cell? ⟨b1, 2, none⟩ = some (.string ⟨#[115]⟩) := blk_cell Hb1.out 2
 have x3 : W1.cell? ⟨b1, 3, none⟩ = some (.int .u64 0) := blk_cell Hb1.out 3
 have x4 : W1.cell? ⟨b1, 4, none⟩ = some (.int .u64 9) := blk_cell Hb1.out 4
 go_wp2_with fail
 refine (tag_LeafNode.calls k1 8 false ⟨#[97]⟩ ⟨#[115]⟩ 0 9 hB 0 9 _ (HK.out.below HB1.out) J1.out).mono ?_
 rintro e v ⟨rfl, hb⟩
 clear x0 x1 x2 x3 x4
 go_upto_region 3 with (fail)
 obtain ⟨W2, hW⟩ : ∃ V, V = v.alloc (.cells #[.string hB, .int .u64 0, .int .u64 9] 28) := ⟨_, rfl⟩
 rw [← hW]
 have hg : Below W1.heap.size W1 W2 := by rw [hW]; exact (Below.trans hb (below_alloc (Below.refl _ _) _ |>.mono hb.size))
 have hBn := HB1.out.trans (hg.mono HB1.out.size)
 have hb1 := blk_below Hb1.out hg
 have hb2 : W2.heap[v.heap.size]? = some (.cells #[.string hB, .int .u64 0, .int .u64 9] 28 (0, 0)) := by rw [hW]; exact blk_new _ _
 generalize v.heap.size = b2 at hb2 ⊢
 clear hg hW
 clear Hb1
 have Hb1 := aM' hb1
 clear hb1
 have Hb2 := aM' hb2
 clear hb2
 have HB2 := aM' hBn
 clear hBn HB1
 clear hb v
 have x0 : W2.cell? ⟨b2, 0, none⟩ = some (.string hB) := blk_cell Hb2.out 0
 have x1 : W2.cell? ⟨b2, 1, none⟩ = some (.int .u64 0) := blk_cell Hb2.out 1
 have x2 : W2.cell? ⟨b2, 2, none⟩ = some (.int .u64 9) := blk_cell Hb2.out 2
 go_upto_region 4 with (fail)
 obtain ⟨W3, hW⟩ : ∃ V, V = W2.alloc (.cells #[.string hB, .int .u64 0, .int .u64 9, .int .i64 0] 63) := ⟨_, rfl⟩
 rw [← hW]
 have hg : Below W2.heap.size W2 W3 := by rw [hW]; exact below_alloc (Below.refl _ _) _
 have hBn := HB2.out.trans (hg.mono HB2.out.size)
 have hb1 := blk_below Hb1.out hg
 have hb2 := blk_below Hb2.out hg
 have hb3 : W3.heap[W2.heap.size]? = some (.cells #[.string hB, .int .u64 0, .int .u64 9, .int .i64 0] 63 (0, 0)) := by rw [hW]; exact blk_new _ _
 generalize W2.heap.size = b3 at hb3 ⊢
 clear hg hW
 clear Hb1
 clear Hb2
 have Hb1 := aM' hb1
 clear hb1
 have Hb2 := aM' hb2
 clear hb2
 have Hb3 := aM' hb3
 clear hb3
 have HB3 := aM' hBn
 clear hBn HB2
 clear x0 x1 x2
 have x0 : W3.cell? ⟨b1, 0, none⟩ = some (.bool false) := blk_cell Hb1.out 0
 have x1 : W3.cell? ⟨b1, 1, none⟩ = some (.string ⟨#[97]⟩) := blk_cell Hb1.out 1
 have x2 : W3.cell? ⟨b1, 2, none⟩ = some (.string ⟨#[115]⟩) := blk_cell Hb1.out 2
 have x3 : W3.cell? ⟨b1, 3, none⟩ = some (.int .u64 0) := blk_cell Hb1.out 3
 have x4 : W3.cell? ⟨b1, 4, none⟩ = some (.int .u64 9) := blk_cell Hb1.out 4
 go_upto_region 5 with (fail)
 obtain ⟨W4, hW⟩ : ∃ V, V = W3.alloc (.cells #[.bool false, .string ⟨#[97]⟩, .string ⟨#[115]⟩, .int .u64 0, .int .u64 9, .int .u64 0, .slice none 0 0] 61) := ⟨_, rfl⟩
 rw [← hW]
 have hg : Below W3.heap.size W3 W4 := by rw [hW]; exact below_alloc (Below.refl _ _) _
 have hBn := HB3.out.trans (hg.mono HB3.out.size)
 have hb1 := blk_below Hb1.out hg
 have hb2 := blk_below Hb2.out hg
 have hb3 := blk_below Hb3.out hg
 have hb4 : W4.heap[W3.heap.size]? = some (.cells #[.bool false, .string ⟨#[97]⟩, .string ⟨#[115]⟩, .int .u64 0, .int .u64 9, .int .u64 0, .slice none 0 0] 61 (0, 0)) := by rw [hW]; exact blk_new _ _
 generalize W3.heap.size = b4 at hb4 ⊢
 clear hg hW
 clear Hb1
 clear Hb2
 clear Hb3
 have Hb1 := aM' hb1
 clear hb1
 have Hb2 := aM' hb2
 clear hb2
 have Hb3 := aM' hb3
 clear hb3
 have Hb4 := aM' hb4
 clear hb4
 have HB4 := aM' hBn
 clear hBn HB3
 clear x0 x1 x2 x3 x4
 have x0 : W4.cell? ⟨b4, 0, none⟩ = some (.bool false) := blk_cell Hb4.out 0
 have x1 : W4.cell? ⟨b4, 1, none⟩ = some (.string ⟨#[97]⟩) := blk_cell Hb4.out 1
 have x2 : W4.cell? ⟨b4, 2, none⟩ = some (.string ⟨#[115]⟩) := blk_cell Hb4.out 2
 have x3 : W4.cell? ⟨b4, 3, none⟩ = some (.int .u64 0) := blk_cell Hb4.out 3
 have x4 : W4.cell? ⟨b4, 4, none⟩ = some (.int .u64 9) := blk_cell Hb4.out 4
 have x5 : W4.cell? ⟨b4, 5, none⟩ = some (.int .u64 0) := blk_cell Hb4.out 5
 have x6 : W4.cell? ⟨b4, 6, none⟩ = some (.slice none 0 0) := blk_cell Hb4.out 6
 go_upto_region 6 with (fail)
 obtain ⟨W5, hW⟩ : ∃ V, V = W4.alloc (.cells #[.bool false, .string ⟨#[97]⟩, .string ⟨#[115]⟩, .int .u64 0, .int .u64 9, .int .u64 0, .slice none 0 0] 61) := ⟨_, rfl⟩
 rw [← hW]
 have hg : Below W4.heap.size W4 W5 := by rw [hW]; exact below_alloc (Below.refl _ _) _
 have hBn := HB4.out.trans (hg.mono HB4.out.size)
 have hb1 := blk_below Hb1.out hg
 have hb2 := blk_below Hb2.out hg
 have hb3 := blk_below Hb3.out hg
 have hb4 := blk_below Hb4.out hg
 have hb5 : W5.heap[W4.heap.size]? = some (.cells #[.bool false, .string ⟨#[97]⟩, .string ⟨#[115]⟩, .int .u64 0, .int .u64 9, .int .u64 0, .slice none 0 0] 61 (0, 0)) := by rw [hW]; exact blk_new _ _
 have nb5 : w.heap.size ≤ W4.heap.size := HB4.out.size
 have nb5_b1 : b1 ≠ W4.heap.size := Nat.ne_of_lt (blk_lt Hb1.out)
 have nb5_b2 : b2 ≠ W4.heap.size := Nat.ne_of_lt (blk_lt Hb2.out)
 have nb5_b3 : b3 ≠ W4.heap.size := Nat.ne_of_lt (blk_lt Hb3.out)
 have nb5_b4 : b4 ≠ W4.heap.size := Nat.ne_of_lt (blk_lt Hb4.out)
 generalize W4.heap.size = b5 at hb5 nb5 nb5_b1 nb5_b2 nb5_b3 nb5_b4 ⊢
 have Nb5 := aM' (And.intro nb5 trivial)
 clear nb5
 have Nb5_b1 := aM' nb5_b1
 clear nb5_b1
 have Nb5_b2 := aM' nb5_b2
 clear nb5_b2
 have Nb5_b3 := aM' nb5_b3
 clear nb5_b3
 have Nb5_b4 := aM' nb5_b4
 clear nb5_b4
 clear hg hW
 clear Hb1
 clear Hb2
 clear Hb3
 clear Hb4
 have Hb1 := aM' hb1
 clear hb1
 have Hb2 := aM' hb2
 clear hb2
 have Hb3 := aM' hb3
 clear hb3
 have Hb4 := aM' hb4
 clear hb4
 have Hb5 := aM' hb5
 clear hb5
 have HB5 := aM' hBn
 clear hBn HB4
 clear x0 x1 x2 x3 x4 x5 x6
 have x : W5.cell? ⟨b5, 4, none⟩ = some (.int .u64 9) := blk_cell Hb5.out 4
 have xf : ∀ i, W5.frozen? ⟨b5, i, none⟩ = false := fun i => blk_frozen Hb5.out i
 go_upto_region 7 with (fail)
 clear x xf
 obtain ⟨W6, hW⟩ : ∃ V, V = W5.setCell ⟨b5, 4, none⟩ (.int .u64 10) := ⟨_, rfl⟩
 rw [← hW]
 have hBn : Below w.heap.size w W6 := by rw [hW]; exact below_set HB5.out Nb5.out.1
 have hb1 : W6.heap[b1]? = some (.cells #[.bool false, .string ⟨#[97]⟩, .string ⟨#[115]⟩, .int .u64 0, .int .u64 9] 57 (0, 0)) := by rw [hW]; exact blk_far Hb1.out Nb5_b1.out _
 have hb2 : W6.heap[b2]? = some (.cells #[.string hB, .int .u64 0, .int .u64 9] 28 (0, 0)) := by rw [hW]; exact blk_far Hb2.out Nb5_b2.out _
 have hb3 : W6.heap[b3]? = some (.cells #[.string hB, .int .u64 0, .int .u64 9, .int .i64 0] 63 (0, 0)) := by rw [hW]; exact blk_far Hb3.out Nb5_b3.out _
 have hb4 : W6.heap[b4]? = some (.cells #[.bool false, .string ⟨#[97]⟩, .string ⟨#[115]⟩, .int .u64 0, .int .u64 9, .int .u64 0, .slice none 0 0] 61 (0, 0)) := by rw [hW]; exact blk_far Hb4.out Nb5_b4.out _
 have hb5 : W6.heap[b5]? = some (.cells #[.bool false, .string ⟨#[97]⟩, .string ⟨#[115]⟩, .int .u64 0, .int .u64 10, .int .u64 0, .slice none 0 0] 61 (0, 0)) := by rw [hW]; exact blk_put (cs' := #[.bool false, .string ⟨#[97]⟩, .string ⟨#[115]⟩, .int .u64 0, .int .u64 10, .int .u64 0, .slice none 0 0]) Hb5.out 4 _ rfl
 clear hW
 clear Hb1
 clear Hb2
 clear Hb3
 clear Hb4
 clear Hb5
 have Hb1 := aM' hb1
 clear hb1
 have Hb2 := aM' hb2
 clear hb2
 have Hb3 := aM' hb3
 clear hb3
 have Hb4 := aM' hb4
 clear hb4
 have Hb5 := aM' hb5
 clear hb5
 have HB6 := aM' hBn
 clear hBn HB5
 have x0 : W6.cell? ⟨b3, 0, none⟩ = some (.string hB) := blk_cell Hb3.out 0
 have x1 : W6.cell? ⟨b3, 1, none⟩ = some (.int .u64 0) := blk_cell Hb3.out 1
 have x2 : W6.cell? ⟨b3, 2, none⟩ = some (.int .u64 9) := blk_cell Hb3.out 2
 have x3 : W6.cell? ⟨b3, 3, none⟩ = some (.int .i64 0) := blk_cell Hb3.out 3
 go_upto_region 8 with (fail)
 obtain ⟨W7, hW⟩ : ∃ V, V = W6.alloc (.cells #[.string hB, .int .u64 0, .int .u64 9, .int .i64 0] 63) := ⟨_, rfl⟩
 rw [← hW]
 have hg : Below W6.heap.size W6 W7 := by rw [hW]; exact below_alloc (Below.refl _ _) _
 have hBn := HB6.out.trans (hg.mono HB6.out.size)
 have hb1 := blk_below Hb1.out hg
 have hb2 := blk_below Hb2.out hg
 have hb3 := blk_below Hb3.out hg
 have hb4 := blk_below Hb4.out hg
 have hb5 := blk_below Hb5.out hg
 have hb6 : W7.heap[W6.heap.size]? = some (.cells #[.string hB, .int .u64 0, .int .u64 9, .int .i64 0] 63 (0, 0)) := by rw [hW]; exact blk_new _ _
 have nb6 : w.heap.size ≤ W6.heap.size := HB6.out.size
 have nb6_b1 : b1 ≠ W6.heap.size := Nat.ne_of_lt (blk_lt Hb1.out)
 have nb6_b2 : b2 ≠ W6.heap.size := Nat.ne_of_lt (blk_lt Hb2.out)
 have nb6_b3 : b3 ≠ W6.heap.size := Nat.ne_of_lt (blk_lt Hb3.out)
 have nb6_b4 : b4 ≠ W6.heap.size := Nat.ne_of_lt (blk_lt Hb4.out)
 have nb6_b5 : b5 ≠ W6.heap.size := Nat.ne_of_lt (blk_lt Hb5.out)
 generalize W6.heap.size = b6 at hb6 nb6 nb6_b1 nb6_b2 nb6_b3 nb6_b4 nb6_b5 ⊢
 have Nb6 := aM' (And.intro nb6 trivial)
 clear nb6
 have Nb6_b1 := aM' nb6_b1
 clear nb6_b1
 have Nb6_b2 := aM' nb6_b2
 clear nb6_b2
 have Nb6_b3 := aM' nb6_b3
 clear nb6_b3
 have Nb6_b4 := aM' nb6_b4
 clear nb6_b4
 have Nb6_b5 := aM' nb6_b5
 clear nb6_b5
 clear hg hW
 clear Hb1
 clear Hb2
 clear Hb3
 clear Hb4
 clear Hb5
 have Hb1 := aM' hb1
 clear hb1
 have Hb2 := aM' hb2
 clear hb2
 have Hb3 := aM' hb3
 clear hb3
 have Hb4 := aM' hb4
 clear hb4
 have Hb5 := aM' hb5
 clear hb5
 have Hb6 := aM' hb6
 clear hb6
 have HB7 := aM' hBn
 clear hBn HB6
 clear x0 x1 x2 x3
 have x : W7.cell? ⟨b6, 3, none⟩ = some (.int .i64 0) := blk_cell Hb6.out 3
 have xf : ∀ i, W7.frozen? ⟨b6, i, none⟩ = false := fun i => blk_frozen Hb6.out i
 go_upto_region 9 with (fail)
 clear x xf
 obtain ⟨W8, hW⟩ : ∃ V, V = W7.setCell ⟨b6, 3, none⟩ (.int .i64 64) := ⟨_, rfl⟩
 rw [← hW]
 have hBn : Below w.heap.size w W8 := by rw [hW]; exact below_set HB7.out Nb6.out.1
 have hb1 : W8.heap[b1]? = some (.cells #[.bool false, .string ⟨#[97]⟩, .string ⟨#[115]⟩, .int .u64 0, .int .u64 9] 57 (0, 0)) := by rw [hW]; exact blk_far Hb1.out Nb6_b1.out _
 have hb2 : W8.heap[b2]? = some (.cells #[.string hB, .int .u64 0, .int .u64 9] 28 (0, 0)) := by rw [hW]; exact blk_far Hb2.out Nb6_b2.out _
 have hb3 : W8.heap[b3]? = some (.cells #[.string hB, .int .u64 0, .int .u64 9, .int .i64 0] 63 (0, 0)) := by rw [hW]; exact blk_far Hb3.out Nb6_b3.out _
 have hb4 : W8.heap[b4]? = some (.cells #[.bool false, .string ⟨#[97]⟩, .string ⟨#[115]⟩, .int .u64 0, .int .u64 9, .int .u64 0, .slice none 0 0] 61 (0, 0)) := by rw [hW]; exact blk_far Hb4.out Nb6_b4.out _
 have hb5 : W8.heap[b5]? = some (.cells #[.bool false, .string ⟨#[97]⟩, .string ⟨#[115]⟩, .int .u64 0, .int .u64 10, .int .u64 0, .slice none 0 0] 61 (0, 0)) := by rw [hW]; exact blk_far Hb5.out Nb6_b5.out _
 have hb6 : W8.heap[b6]? = some (.cells #[.string hB, .int .u64 0, .int .u64 9, .int .i64 64] 63 (0, 0)) := by rw [hW]; exact blk_put (cs' := #[.string hB, .int .u64 0, .int .u64 9, .int .i64 64]) Hb6.out 3 _ rfl
 clear hW
 clear Hb1
 clear Hb2
 clear Hb3
 clear Hb4
 clear Hb5
 clear Hb6
 have Hb1 := aM' hb1
 clear hb1
 have Hb2 := aM' hb2
 clear hb2
 have Hb3 := aM' hb3
 clear hb3
 have Hb4 := aM' hb4
 clear hb4
 have Hb5 := aM' hb5
 clear hb5
 have Hb6 := aM' hb6
 clear hb6
 have HB8 := aM' hBn
 clear hBn HB7
 have x0 : W8.cell? ⟨b4, 0, none⟩ = some (.bool false) := blk_cell Hb4.out 0
 have x1 : W8.cell? ⟨b4, 1, none⟩ = some (.string ⟨#[97]⟩) := blk_cell Hb4.out 1
 have x2 : W8.cell? ⟨b4, 2, none⟩ = some (.string ⟨#[115]⟩) := blk_cell Hb4.out 2
 have x3 : W8.cell? ⟨b4, 3, none⟩ = some (.int .u64 0) := blk_cell Hb4.out 3
 have x4 : W8.cell? ⟨b4, 4, none⟩ = some (.int .u64 9) := blk_cell Hb4.out 4
 have x5 : W8.cell? ⟨b4, 5, none⟩ = some (.int .u64 0) := blk_cell Hb4.out 5
 have x6 : W8.cell? ⟨b4, 6, none⟩ = some (.slice none 0 0) := blk_cell Hb4.out 6
 have Q := aM' (verify_Up.calls 8 false ⟨#[97]⟩ ⟨#[115]⟩ 0 9 0 none 0 [] hB 0 9 0 0 W8 (HK.out.below HB8.out) (Kd.C_nil _ _) (Nat.le_refl _) U1.out)
 go_wp2_with fail
 refine Q.out.mono ?_
 rintro e v ⟨rfl, hb⟩
 clear Q x0 x1 x2 x3 x4 x5 x6
 go_upto_region 10 with (fail)
 obtain ⟨W9, hW⟩ : ∃ V, V = v.alloc (.cells #[.string hB, .int .u64 0, .int .u64 9, .int .i64 0] 63) := ⟨_, rfl⟩
 rw [← hW]
 have hg : Below W8.heap.size W8 W9 := by rw [hW]; exact (Below.trans hb (below_alloc (Below.refl _ _) _ |>.mono hb.size))
 have hBn := HB8.out.trans (hg.mono HB8.out.size)
 have hb1 := blk_below Hb1.out hg
 have hb2 := blk_below Hb2.out hg
 have hb3 := blk_below Hb3.out hg
 have hb4 := blk_below Hb4.out hg
 have hb5 := blk_below Hb5.out hg
 have hb6 := blk_below Hb6.out hg
 have hb7 : W9.heap[v.heap.size]? = some (.cells #[.string hB, .int .u64 0, .int .u64 9, .int .i64 0] 63 (0, 0)) := by rw [hW]; exact blk_new _ _
 generalize v.heap.size = b7 at hb7 ⊢
 clear hg hW
 clear Hb1
 clear Hb2
 clear Hb3
 clear Hb4
 clear Hb5
 clear Hb6
 have Hb1 := aM' hb1
 clear hb1
 have Hb2 := aM' hb2
 clear hb2
 have Hb3 := aM' hb3
 clear hb3
 have Hb4 := aM' hb4
 clear hb4
 have Hb5 := aM' hb5
 clear hb5
 have Hb6 := aM' hb6
 clear hb6
 have Hb7 := aM' hb7
 clear hb7
 have HB9 := aM' hBn
 clear hBn HB8
 clear hb v
 have x0 : W9.cell? ⟨b3, 0, none⟩ = some (.string hB) := blk_cell Hb3.out 0
 have x1 : W9.cell? ⟨b3, 1, none⟩ = some (.int .u64 0) := blk_cell Hb3.out 1
 have x2 : W9.cell? ⟨b3, 2, none⟩ = some (.int .u64 9) := blk_cell Hb3.out 2
 have x3 : W9.cell? ⟨b3, 3, none⟩ = some (.int .i64 0) := blk_cell Hb3.out 3
 have y0 : W9.cell? ⟨b4, 0, none⟩ = some (.bool false) := blk_cell Hb4.out 0
 have y1 : W9.cell? ⟨b4, 1, none⟩ = some (.string ⟨#[97]⟩) := blk_cell Hb4.out 1
 have y2 : W9.cell? ⟨b4, 2, none⟩ = some (.string ⟨#[115]⟩) := blk_cell Hb4.out 2
 have y3 : W9.cell? ⟨b4, 3, none⟩ = some (.int .u64 0) := blk_cell Hb4.out 3
 have y4 : W9.cell? ⟨b4, 4, none⟩ = some (.int .u64 9) := blk_cell Hb4.out 4
 have y5 : W9.cell? ⟨b4, 5, none⟩ = some (.int .u64 0) := blk_cell Hb4.out 5
 have y6 : W9.cell? ⟨b4, 6, none⟩ = some (.slice none 0 0) := blk_cell Hb4.out 6
 have Q := aM' (verify_Check.calls hB 0 9 0 false ⟨#[97]⟩ ⟨#[115]⟩ 0 9 0 none 0 [] 0 W9 (HK.out.below HB9.out) (Kd.C_nil _ _) (Nat.le_refl _) C1.out)
 go_wp2_with fail
 refine Q.out.mono ?_
 rintro e V10 ⟨rfl, hb⟩
 have hBn := HB9.out.trans (hb.mono HB9.out.size)
 have hb1 := blk_below Hb1.out hb
 have hb2 := blk_below Hb2.out hb
 have hb3 := blk_below Hb3.out hb
 have hb4 := blk_below Hb4.out hb
 have hb5 := blk_below Hb5.out hb
 have hb6 := blk_below Hb6.out hb
 have hb7 := blk_below Hb7.out hb
 clear Q hb x0 x1 x2 x3 y0 y1 y2 y3 y4 y5 y6
 clear Hb1
 clear Hb2
 clear Hb3
 clear Hb4
 clear Hb5
 clear Hb6
 clear Hb7
 have Hb1 := aM' hb1
 clear hb1
 have Hb2 := aM' hb2
 clear hb2
 have Hb3 := aM' hb3
 clear hb3
 have Hb4 := aM' hb4
 clear hb4
 have Hb5 := aM' hb5
 clear hb5
 have Hb6 := aM' hb6
 clear hb6
 have Hb7 := aM' hb7
 clear hb7
 have HB10 := aM' hBn
 clear hBn HB9
 have x0 : V10.cell? ⟨b3, 0, none⟩ = some (.string hB) := blk_cell Hb3.out 0
 have x1 : V10.cell? ⟨b3, 1, none⟩ = some (.int .u64 0) := blk_cell Hb3.out 1
 have x2 : V10.cell? ⟨b3, 2, none⟩ = some (.int .u64 9) := blk_cell Hb3.out 2
 have x3 : V10.cell? ⟨b3, 3, none⟩ = some (.int .i64 0) := blk_cell Hb3.out 3
 have y0 : V10.cell? ⟨b5, 0, none⟩ = some (.bool false) := blk_cell Hb5.out 0
 have y1 : V10.cell? ⟨b5, 1, none⟩ = some (.string ⟨#[97]⟩) := blk_cell Hb5.out 1
 have y2 : V10.cell? ⟨b5, 2, none⟩ = some (.string ⟨#[115]⟩) := blk_cell Hb5.out 2
 have y3 : V10.cell? ⟨b5, 3, none⟩ = some (.int .u64 0) := blk_cell Hb5.out 3
 have y4 : V10.cell? ⟨b5, 4, none⟩ = some (.int .u64 10) := blk_cell Hb5.out 4
 have y5 : V10.cell? ⟨b5, 5, none⟩ = some (.int .u64 0) := blk_cell Hb5.out 5
 have y6 : V10.cell? ⟨b5, 6, none⟩ = some (.slice none 0 0) := blk_cell Hb5.out 6
 have Q := aM' (verify_Check.calls hB 0 9 0 false ⟨#[97]⟩ ⟨#[115]⟩ 0 10 0 none 0 [] 160 V10 (HK.out.below HB10.out) (Kd.C_nil _ _) (Nat.le_refl _) C2.out)
 go_wp2_with fail
 refine Q.out.mono ?_
 rintro e V11 ⟨rfl, hb⟩
 have hBn := HB10.out.trans (hb.mono HB10.out.size)
 have hb1 := blk_below Hb1.out hb
 have hb2 := blk_below Hb2.out hb
 have hb3 := blk_below Hb3.out hb
 have hb4 := blk_below Hb4.out hb
 have hb5 := blk_below Hb5.out hb
 have hb6 := blk_below Hb6.out hb
 have hb7 := blk_below Hb7.out hb
 clear Q hb x0 x1 x2 x3 y0 y1 y2 y3 y4 y5 y6
 clear Hb1
 clear Hb2
 clear Hb3
 clear Hb4
 clear Hb5
 clear Hb6
 clear Hb7
 have Hb1 := aM' hb1
 clear hb1
 have Hb2 := aM' hb2
 clear hb2
 have Hb3 := aM' hb3
 clear hb3
 have Hb4 := aM' hb4
 clear hb4
 have Hb5 := aM' hb5
 clear hb5
 have Hb6 := aM' hb6
 clear hb6
 have Hb7 := aM' hb7
 clear hb7
 have HB11 := aM' hBn
 clear hBn HB10
 have x0 : V11.cell? ⟨b6, 0, none⟩ = some (.string hB) := blk_cell Hb6.out 0
 have x1 : V11.cell? ⟨b6, 1, none⟩ = some (.int .u64 0) := blk_cell Hb6.out 1
 have x2 : V11.cell? ⟨b6, 2, none⟩ = some (.int .u64 9) := blk_cell Hb6.out 2
 have x3 : V11.cell? ⟨b6, 3, none⟩ = some (.int .i64 64) := blk_cell Hb6.out 3
 have y0 : V11.cell? ⟨b4, 0, none⟩ = some (.bool false) := blk_cell Hb4.out 0
 have y1 : V11.cell? ⟨b4, 1, none⟩ = some (.string ⟨#[97]⟩) := blk_cell Hb4.out 1
 have y2 : V11.cell? ⟨b4, 2, none⟩ = some (.string ⟨#[115]⟩) := blk_cell Hb4.out 2
 have y3 : V11.cell? ⟨b4, 3, none⟩ = some (.int .u64 0) := blk_cell Hb4.out 3
 have y4 : V11.cell? ⟨b4, 4, none⟩ = some (.int .u64 9) := blk_cell Hb4.out 4
 have y5 : V11.cell? ⟨b4, 5, none⟩ = some (.int .u64 0) := blk_cell Hb4.out 5
 have y6 : V11.cell? ⟨b4, 6, none⟩ = some (.slice none 0 0) := blk_cell Hb4.out 6
 have Q := aM' (verify_Check.calls hB 0 9 64 false ⟨#[97]⟩ ⟨#[115]⟩ 0 9 0 none 0 [] 120 V11 (HK.out.below HB11.out) (Kd.C_nil _ _) (Nat.le_refl _) C3.out)
 go_wp2_with fail
 refine Q.out.mono ?_
 rintro e V12 ⟨rfl, hb⟩
 have hBn := HB11.out.trans (hb.mono HB11.out.size)
 have hb1 := blk_below Hb1.out hb
 have hb2 := blk_below Hb2.out hb
 have hb3 := blk_below Hb3.out hb
 have hb4 := blk_below Hb4.out hb
 have hb5 := blk_below Hb5.out hb
 have hb6 := blk_below Hb6.out hb
 have hb7 := blk_below Hb7.out hb
 clear Q hb x0 x1 x2 x3 y0 y1 y2 y3 y4 y5 y6
 clear Hb1
 clear Hb2
 clear Hb3
 clear Hb4
 clear Hb5
 clear Hb6
 clear Hb7
 have Hb1 := aM' hb1
 clear hb1
 have Hb2 := aM' hb2
 clear hb2
 have Hb3 := aM' hb3
 clear hb3
 have Hb4 := aM' hb4
 clear hb4
 have Hb5 := aM' hb5
 clear hb5
 have Hb6 := aM' hb6
 clear hb6
 have Hb7 := aM' hb7
 clear hb7
 have HB12 := aM' hBn
 clear hBn HB11
 have x0 : V12.cell? ⟨b3, 0, none⟩ = some (.string hB) := blk_cell Hb3.out 0
 have x1 : V12.cell? ⟨b3, 1, none⟩ = some (.int .u64 0) := blk_cell Hb3.out 1
 have x2 : V12.cell? ⟨b3, 2, none⟩ = some (.int .u64 9) := blk_cell Hb3.out 2
 have x3 : V12.cell? ⟨b3, 3, none⟩ = some (.int .i64 0) := blk_cell Hb3.out 3
 have Q := aM' (verify_Check.calls hB 0 9 0 false ⟨#[]⟩ ⟨#[]⟩ 0 0 0 none 0 [] 130 V12 (HK.out.below HB12.out) (Kd.C_nil _ _) (Nat.le_refl _) C4.out)
 go_wp2_with fail
 refine Q.out.mono ?_
 rintro e V13 ⟨rfl, hb⟩
 have hBn := HB12.out.trans (hb.mono HB12.out.size)
 have hb1 := blk_below Hb1.out hb
 have hb2 := blk_below Hb2.out hb
 have hb3 := blk_below Hb3.out hb
 have hb4 := blk_below Hb4.out hb
 have hb5 := blk_below Hb5.out hb
 have hb6 := blk_below Hb6.out hb
 have hb7 := blk_below Hb7.out hb
 clear Q hb x0 x1 x2 x3
 clear Hb1
 clear Hb2
 clear Hb3
 clear Hb4
 clear Hb5
 clear Hb6
 clear Hb7
 have Hb1 := aM' hb1
 clear hb1
 have Hb2 := aM' hb2
 clear hb2
 have Hb3 := aM' hb3
 clear hb3
 have Hb4 := aM' hb4
 clear hb4
 have Hb5 := aM' hb5
 clear hb5
 have Hb6 := aM' hb6
 clear hb6
 have Hb7 := aM' hb7
 clear hb7
 have HB13 := aM' hBn
 clear hBn HB12
 have x0 : V13.cell? ⟨b7, 0, none⟩ = some (.string hB) := blk_cell Hb7.out 0
 have x1 : V13.cell? ⟨b7, 1, none⟩ = some (.int .u64 0) := blk_cell Hb7.out 1
 have x2 : V13.cell? ⟨b7, 2, none⟩ = some (.int .u64 9) := blk_cell Hb7.out 2
 have x3 : V13.cell? ⟨b7, 3, none⟩ = some (.int .i64 0) := blk_cell Hb7.out 3
 have y0 : V13.cell? ⟨b3, 0, none⟩ = some (.string hB) := blk_cell Hb3.out 0
 have y1 : V13.cell? ⟨b3, 1, none⟩ = some (.int .u64 0) := blk_cell Hb3.out 1
 have y2 : V13.cell? ⟨b3, 2, none⟩ = some (.int .u64 9) := blk_cell Hb3.out 2
 have y3 : V13.cell? ⟨b3, 3, none⟩ = some (.int .i64 0) := blk_cell Hb3.out 3
 go_wp2
 go_ret
 exact ⟨rfl, HB13.out⟩
def paymasterlaw17_awake.f : Option Bool := some true
theorem paymasterlaw17_awake.calls (r : Bool) (w : World) (hK : LaidT w) (h : paymasterlaw17_awake.f = some r) : Calls Tryd.prog 26 #[] w fun e w' => e = .returned (.bool r) ∧ Below w.heap.size w w' := by
 cases h
 exact awake17.calls w hK
end Go.Proofs.YtijfifphcchbbaaDoor.P
