-- Several texts of this workplace as one.
import Derived.Test.YtfcodmdckcihmaaDoorZVerifyHonest1
import Derived.Test.YtfcodmdckcihmaaDoorProg
import Derived.Deep.OwnRows
import Derived.Laws.Rows
import Derived.Test.YtfcodmdckcihmaaDoorRows
import Derived.Test.YtfcodmdckcihmaaDoorCards
import Derived.Test.YtfcodmdckcihmaaDoorTie
namespace Go.Proofs.YtfcodmdckcihmaaDoor.P
open Go.RowKit Go.Proofs.YtfcodmdckcihmaaDoorW.PrintWords Go.Proofs.YtfcodmdckcihmaaDoorW.PrintLast Go.Proofs.YtfcodmdckcihmaaDoorW.PrintMore
set_option linter.unusedVariables false
set_option linter.unusedSimpArgs false
set_option linter.unnecessarySimpa false
structure OkU (u : SU128) : Prop where
 h0 : 0 ≤ u.f0 ∧ u.f0 < 18446744073709551616
 h1 : 0 ≤ u.f1 ∧ u.f1 < 18446744073709551616
theorem tagNodeText_eq (l r : SNode) (hl : l.f0.size ≤ 1000000) (hr : r.f0.size ≤ 1000000) : tag_NodeText.f l.f0 l.f1.f0 l.f1.f1 r.f0 r.f1.f0 r.f1.f1 = some (nodeText l r) := by
 unfold tag_NodeText.f
 rw [if_pos ⟨hl, hr⟩]
def dgI (w : Int) (t : ByteArray) : ByteArray := (refSumI t).extract 0 w.toNat
theorem refSumI_len (t : ByteArray) : (refSumI t).size = 32 := by
 rw [refSumI, digestI, strOfNums_size, digL_length]
theorem dgI_size (w : Int) (t : ByteArray) (h0 : 0 ≤ w) (h : w ≤ 32) : (dgI w t).size = w.toNat := by
 rw [dgI, ByteArray.size_extract, refSumI_len]; omega
theorem tagDigest_eq (w : Int) (t : ByteArray) (h0 : 1 ≤ w) (h1 : w ≤ 32) (ht : t.size ≤ 100000000) : tag_Digest.f w t = some (dgI w t) := by
 have e : sha_Sum.f t = some (refSumI t) := by rw [sha_Sum.f, if_pos (by omega), sumI_ref t (by omega)]
 unfold tag_Digest.f tag_MayWidth.f
 rw [if_pos h0]
 simp only [Option.bind_some, decide_eq_true h1, if_true, e]
 rw [if_pos (by omega), if_pos (by rw [refSumI_len]; omega)]
 rfl
def joinI (w : Int) (l r : SNode) : ByteArray × Int × Int × Int :=
 if nodeOf w l = true ∧ nodeOf w r = true then
  (if (addI128 l.f1.f0 l.f1.f1 r.f1.f0 r.f1.f1).2.2 = 0 then (dgI w (nodeText l r), (addI128 l.f1.f0 l.f1.f1 r.f1.f0 r.f1.f1).1, (addI128 l.f1.f0 l.f1.f1 r.f1.f0 r.f1.f1).2.1, 0) else (⟨#[]⟩, 0, 0, 10))
 else (⟨#[]⟩, 0, 0, 70)
theorem nodeOf_w {w : Int} {n : SNode} (h : nodeOf w n = true) : 1 ≤ w ∧ w ≤ 32 ∧ (n.f0.size : Int) = w := by
 simp only [nodeOf, Bool.and_eq_true, decide_eq_true_eq, beq_iff_eq] at h
 exact h
attribute [local go_sem] sel_true
structure JnB (w : World) (l r z : SNode) (W : World) : Prop where
 h4 : W.heap[w.heap.size]? = some (.cells #[.string l.f0, .int .u64 l.f1.f0, .int .u64 l.f1.f1] 46 (0, 0))
 h5 : W.heap[w.heap.size + 1]? = some (.cells #[.string r.f0, .int .u64 r.f1.f0, .int .u64 r.f1.f1] 46 (0, 0))
 h6 : W.heap[w.heap.size + 1 + 1]? = some (.cells #[.string z.f0, .int .u64 z.f1.f0, .int .u64 z.f1.f1] 46 (0, 0))
 hB : Below w.heap.size w W
theorem JnB.below {w W W' : World} {l r z : SNode} (h : JnB w l r z W) (hb : Below W.heap.size W W') : JnB w l r z W' := ⟨blk_below h.h4 hb, blk_below h.h5 hb, blk_below h.h6 hb, h.hB.trans (hb.mono h.hB.size)⟩
theorem JnB.put {w W : World} {l r z : SNode} (h : JnB w l r z W) (y : SNode) : JnB w l r y (((W.setCell ⟨w.heap.size + 1 + 1, 0, none⟩ (.string y.f0)).setCell ⟨w.heap.size + 1 + 1, 1, none⟩ (.int .u64 y.f1.f0)).setCell ⟨w.heap.size + 1 + 1, 2, none⟩ (.int .u64 y.f1.f1)) :=
 ⟨blk_far (blk_far (blk_far h.h4 (by (try dsimp only); omega) _) (by (try dsimp only); omega) _) (by (try dsimp only); omega) _, blk_far (blk_far (blk_far h.h5 (by (try dsimp only); omega) _) (by (try dsimp only); omega) _) (by (try dsimp only); omega) _, blk_put (blk_put (blk_put h.h6 0 _ rfl) 1 _ rfl) 2 _ rfl, below_set (below_set (below_set h.hB (by omega)) (by omega)) (by omega)⟩
theorem JnB.start (w : World) (l r : SNode) : JnB w l r ⟨⟨#[]⟩, ⟨0, 0⟩⟩ (((w.alloc (.cells #[.string l.f0, .int .u64 l.f1.f0, .int .u64 l.f1.f1] 46)).alloc (.cells #[.string r.f0, .int .u64 r.f1.f0, .int .u64 r.f1.f1] 46)).alloc (.cells #[.string ⟨#[]⟩, .int .u64 0, .int .u64 0] 46)) := by
 refine ⟨blk_alloc (blk_alloc (blk_new w _) _) _, blk_alloc ?_ _, ?_, below_alloc (below_alloc (below_alloc (Below.refl _ _) _) _) _⟩
 ·
  have := blk_new (w.alloc (.cells #[.string l.f0, .int .u64 l.f1.f0, .int .u64 l.f1.f1] 46)) (.cells #[.string r.f0, .int .u64 r.f1.f0, .int .u64 r.f1.f1] 46); rwa [World.size_alloc] at this
 ·
  have := blk_new ((w.alloc (.cells #[.string l.f0, .int .u64 l.f1.f0, .int .u64 l.f1.f1] 46)).alloc (.cells #[.string r.f0, .int .u64 r.f1.f0, .int .u64 r.f1.f1] 46)) (.cells #[.string ⟨#[]⟩, .int .u64 0, .int .u64 0] 46); rwa [World.size_alloc, World.size_alloc] at this
set_option maxRecDepth 100000 in
set_option maxHeartbeats 1000000 in
theorem node_Join.walk (wd : Int) (nl nr : SNode) (w : World) (hK : Laid w) (hu1 : OkU nl.f1) (hu2 : OkU nr.f1) :
  Calls Tryd.prog 59 #[.int .i64 wd, .agg #[.string nl.f0, .int .u64 nl.f1.f0, .int .u64 nl.f1.f1], .agg #[.string nr.f0, .int .u64 nr.f1.f0, .int .u64 nr.f1.f1]] w fun e w' => e = .returned (.tuple #[.agg #[.string (joinI wd nl nr).1, .int .u64 (joinI wd nl nr).2.1, .int .u64 (joinI wd nl nr).2.2.1], .int .i64 (joinI wd nl nr).2.2.2]) ∧ Below w.heap.size w w' := by
 obtain ⟨J, hJ⟩ : ∃ J, J = joinI wd nl nr := ⟨_, rfl⟩
 rw [← hJ]
 have HJ := aM' hJ
 clear hJ
 have hu := Tryd.underlying46
 have hu3 := Tryd.underlying34
 have HS := aM' (JnB.start w nl nr)
 have HK := aM' hK
 clear hK
 obtain ⟨W0, hW0⟩ : ∃ V, V = ((w.alloc (.cells #[.string nl.f0, .int .u64 nl.f1.f0, .int .u64 nl.f1.f1] 46)).alloc (.cells #[.string nr.f0, .int .u64 nr.f1.f0, .int .u64 nr.f1.f1] 46)).alloc (.cells #[.string ⟨#[]⟩, .int .u64 0, .int .u64 0] 46) := ⟨_, rfl⟩
 rw [← hW0] at HS
 have HL := aM' hu1
 have HR := aM' hu2
 clear hu1 hu2
 have p0 := blk_cell HS.out.h4 0
 have p1 := blk_cell HS.out.h4 1
 have p2 := blk_cell HS.out.h4 2
 simp at p0 p1 p2
 go_enter Tryd.func59, Tryd.ntmps59
 go_wp2_with fail
 rw [← hW0]
 clear hW0
 refine (node_Of.calls wd nl.f0 nl.f1.f0 nl.f1.f1 (nodeOf wd nl) _ (node_Of_eq wd nl)).mono ?_
 rintro e w1 ⟨rfl, hb⟩
 have HS1 := aM' (HS.out.below hb)
 clear hb p0 p1 p2
 have p0 := fun i => blk_cell HS1.out.h6 i
 have pf := fun i => blk_frozen HS1.out.h6 i
 have q0 := blk_cell HS1.out.h5 0
 have q1 := blk_cell HS1.out.h5 1
 have q2 := blk_cell HS1.out.h5 2
 simp at q0 q1 q2
 have z0 := p0 0
 have z1 := p0 1
 have z2 := p0 2
 simp at z0 z1 z2
 clear p0
 cases h1 : nodeOf wd nl with
 | false =>
  have HI := aM' (show J = (⟨#[]⟩, 0, 0, 70) by rw [HJ.out]; unfold joinI; rw [if_neg (by rw [h1]; simp)])
  have HZ := aM' (HS1.out.put ⟨⟨#[]⟩, ⟨0, 0⟩⟩)
  have y0 := blk_cell HZ.out.h6 0
  have y1 := blk_cell HZ.out.h6 1
  have y2 := blk_cell HZ.out.h6 2
  simp at y0 y1 y2
  clear h1
  go_wp2
  refine bodyPost_ret (v := .tuple #[.agg #[.string ⟨#[]⟩, .int .u64 0, .int .u64 0], .int .i64 70]) ?_ rfl ⟨by rw [HI.out], HZ.out.hB⟩
  simp [results, Tryd.results59, go_sem, hu, y0, y1, y2]
 | true =>
  have H1 := aM' h1
  clear h1
  go_wp2_with fail
  refine (node_Of.calls wd nr.f0 nr.f1.f0 nr.f1.f1 (nodeOf wd nr) _ (node_Of_eq wd nr)).mono ?_
  rintro e w2 ⟨rfl, hb⟩
  have HS2 := aM' (HS1.out.below hb)
  clear hb q0 q1 q2 z0 z1 z2 pf
  have pf := fun i => blk_frozen HS2.out.h6 i
  have z0 := blk_cell HS2.out.h6 0
  have z1 := blk_cell HS2.out.h6 1
  have z2 := blk_cell HS2.out.h6 2
  simp at z0 z1 z2
  cases h2 : nodeOf wd nr with
  | false =>
   have HI := aM' (show J = (⟨#[]⟩, 0, 0, 70) by rw [HJ.out]; unfold joinI; rw [if_neg (by rw [h2]; simp)])
   have HZ := aM' (HS2.out.put ⟨⟨#[]⟩, ⟨0, 0⟩⟩)
   have y0 := blk_cell HZ.out.h6 0
   have y1 := blk_cell HZ.out.h6 1
   have y2 := blk_cell HZ.out.h6 2
   simp at y0 y1 y2
   clear h2
   go_wp2
   refine bodyPost_ret (v := .tuple #[.agg #[.string ⟨#[]⟩, .int .u64 0, .int .u64 0], .int .i64 70]) ?_ rfl ⟨by rw [HI.out], HZ.out.hB⟩
   simp [results, Tryd.results59, go_sem, hu, y0, y1, y2]
  | true =>
   have H2 := aM' h2
   clear h2
   have x1 := blk_cell HS2.out.h4 1
   have x2 := blk_cell HS2.out.h4 2
   have q1 := blk_cell HS2.out.h5 1
   have q2 := blk_cell HS2.out.h5 2
   simp at x1 x2 q1 q2
   obtain ⟨s0, s1, s2, hs⟩ : ∃ s0 s1 s2, addI128 nl.f1.f0 nl.f1.f1 nr.f1.f0 nr.f1.f1 = (s0, s1, s2) := ⟨_, _, _, rfl⟩
   have HSS := aM' hs
   clear hs
   go_wp2_with fail
   refine (u128_Add.calls nl.f1.f0 nl.f1.f1 nr.f1.f0 nr.f1.f1 s0 s1 s2 _ (by rw [← HSS.out]; exact u128Add_eq _ _ _ _ HL.out.h0 HL.out.h1 HR.out.h0 HR.out.h1)).mono ?_
   rintro e w3 ⟨rfl, hb⟩
   have HS3 := aM' (HS2.out.below hb)
   have hs8 := HS3.out.hB.size
   have hs9 := blk_lt HS3.out.h6
   clear hb x1 x2 q1 q2 pf z0 z1 z2
   obtain ⟨g8, hg8⟩ : ∃ g, g = w3.heap.size := ⟨_, rfl⟩
   obtain ⟨W4, hW4⟩ : ∃ V, V = w3.alloc (.cells #[.int .u64 s0, .int .u64 s1] 34) := ⟨_, rfl⟩
   have HS4 := aM' (show JnB w nl nr ⟨⟨#[]⟩, ⟨0, 0⟩⟩ W4 by rw [hW4]; exact HS3.out.below (below_alloc (Below.refl _ _) _))
   have HG8 := aM' (show g8 ≠ w.heap.size + 1 + 1 by rw [hg8]; omega)
   have H8 := aM' (show W4.heap[g8]? = some (.cells #[.int .u64 s0, .int .u64 s1] 34 (0, 0)) by rw [hW4, hg8]; exact blk_new _ _)
   by_cases h0 : s2 = 0
   ·
    have b0 : (s2 == 0) = true := by simp [h0]
    have HI := aM' (show J = (dgI wd (nodeText nl nr), s0, s1, 0) by rw [HJ.out]; unfold joinI; rw [if_pos ⟨H1.out, H2.out⟩, HSS.out, if_pos h0])
    subst h0
    go_upto_region 4 with (fail)
    rw [← hg8, ← hW4]
    clear hg8 hW4
    obtain ⟨w1', w2', e1⟩ := nodeOf_w H1.out
    obtain ⟨_, _, e2⟩ := nodeOf_w H2.out
    have HT := aM' (show nl.f0.size ≤ 32 ∧ nr.f0.size ≤ 32 by omega)
    have HW := aM' (And.intro w1' w2')
    have p0 := blk_cell HS4.out.h4 0
    have p1 := blk_cell HS4.out.h4 1
    have p2 := blk_cell HS4.out.h4 2
    have q0 := blk_cell HS4.out.h5 0
    have q1 := blk_cell HS4.out.h5 1
    have q2 := blk_cell HS4.out.h5 2
    have a0 := blk_cell H8.out 0
    have a1 := blk_cell H8.out 1
    simp at p0 p1 p2 q0 q1 q2 a0 a1
    obtain ⟨dg, hdg⟩ : ∃ d, d = dgI wd (nodeText nl nr) := ⟨_, rfl⟩
    have HDG := aM' hdg
    clear w1' w2' e1 e2 hdg hs8 hs9 b0
    go_upto_region 6 with (fail)
    refine region_inv (fun l a W => a = ({ tmps := #[.int .i64 wd, .agg #[.string nl.f0, .int .u64 nl.f1.f0, .int .u64 nl.f1.f1], .agg #[.string nr.f0, .int .u64 nr.f1.f0, .int .u64 nr.f1.f1], undef, .pointer (some ⟨w.heap.size, 0, none⟩), .pointer (some ⟨w.heap.size + 1, 0, none⟩), .pointer (some ⟨w.heap.size + 1 + 1, 0, none⟩), sel (l 8) (.int .i64 0) (.int .i64 0), .pointer (some ⟨g8, 0, none⟩), .int .i64 0, .int .i64 wd, .agg #[.string nl.f0, .int .u64 nl.f1.f0, .int .u64 nl.f1.f1], .bool true, .bool false, .bool false, .int .i64 wd, .agg #[.string nr.f0, .int .u64 nr.f1.f0, .int .u64 nr.f1.f1], .bool true, .bool false, .bool false, undef, .tuple #[.agg #[.int .u64 s0, .int .u64 s1], .int .i64 0], .pointer (some ⟨w.heap.size, 1, none⟩), .agg #[.int .u64 nl.f1.f0, .int .u64 nl.f1.f1], .pointer (some ⟨w.heap.size + 1, 1, none⟩), .agg #[.int .u64 nr.f1.f0, .int .u64 nr.f1.f1], .tuple #[.agg #[.int .u64 s0, .int .u64 s1], .int .i64 0], .agg #[.int .u64 s0, .int .u64 s1], .int .i64 0, .int .i64 0, .bool false, undef, sel (l 0) (.int .i64 wd) (undef), sel (l 1) (.agg #[.string nl.f0, .int .u64 nl.f1.f0, .int .u64 nl.f1.f1]) (undef), sel (l 2) (.agg #[.string nr.f0, .int .u64 nr.f1.f0, .int .u64 nr.f1.f1]) (undef), sel (l 3) (.string (nodeText nl nr)) (undef), sel (l 4) (.string dg) (undef), sel (l 5) (.agg #[.int .u64 s0, .int .u64 s1]) (undef), sel (l 6) (.agg #[.string dg, .int .u64 s0, .int .u64 s1]) (undef)], defers := [] } : Act) ∧ (JnB w nl nr (if l 7 = true then ⟨dg, ⟨s0, s1⟩⟩ else ⟨⟨#[]⟩, ⟨0, 0⟩⟩) W ∧ W.heap[g8]? = some (.cells #[.int .u64 s0, .int .u64 s1] 34 (0, 0)))) 9 rfl rfl (by kernel_rfl) ?h0 ?hend ?hstep
    case h0 => exact ⟨rfl, HS4.out.below (below_drew (Below.refl _ _)), blk_drew H8.out⟩
    case hstep =>
     refine rg_cons (rg_cons (rg_cons (rg_cons (rg_cons (rg_cons (rg_cons (rg_cons (rg_cons (rg_nil) ?s0) ?s1) ?s2) ?s3) ?s4) ?s5) ?s6) ?s7) ?s8
     case s0 =>
      refine rg_step rfl ?_
      rintro l a W ⟨rfl, hI⟩ hl hd
      clear hd
      refine rg_val (v := .int .i64 wd) (w' := W) rfl (by go_simp) ?_
      refine ⟨?_, ?_⟩
      ·
       simp only [Act.put, List.setIfInBounds_toArray, List.set_cons_zero, List.set_cons_succ]; rfl
      ·
       exact hI
     case s1 =>
      refine rg_step rfl ?_
      rintro l a W ⟨rfl, hI⟩ hl hd
      clear hd
      have x0 := blk_cell (hI.1.h4) 0
      have x1 := blk_cell (hI.1.h4) 1
      have x2 := blk_cell (hI.1.h4) 2
      simp at x0 x1 x2
      refine rg_val (v := .agg #[.string nl.f0, .int .u64 nl.f1.f0, .int .u64 nl.f1.f1]) (w' := W) rfl (by go_simp) ?_
      refine ⟨?_, ?_⟩
      ·
       simp only [Act.put, List.setIfInBounds_toArray, List.set_cons_zero, List.set_cons_succ]; rfl
      ·
       exact hI
     case s2 =>
      refine rg_step rfl ?_
      rintro l a W ⟨rfl, hI⟩ hl hd
      clear hd
      have x0 := blk_cell (hI.1.h5) 0
      have x1 := blk_cell (hI.1.h5) 1
      have x2 := blk_cell (hI.1.h5) 2
      simp at x0 x1 x2
      refine rg_val (v := .agg #[.string nr.f0, .int .u64 nr.f1.f0, .int .u64 nr.f1.f1]) (w' := W) rfl (by go_simp) ?_
      refine ⟨?_, ?_⟩
      ·
       simp only [Act.put, List.setIfInBounds_toArray, List.set_cons_zero, List.set_cons_succ]; rfl
      ·
       exact hI
     case s3 =>
      refine rg_step rfl ?_
      rintro l a W ⟨rfl, hI⟩ hl hd
      have d1 := hd 1 (by decide)
      have d2 := hd 2 (by decide)
      clear hd
      refine rg_call rfl (by go_simp; exact ⟨rfl, rfl⟩) ?_
      refine (tag_NodeText.calls nl.f0 nl.f1.f0 nl.f1.f1 nr.f0 nr.f1.f0 nr.f1.f1 (nodeText nl nr) _ (tagNodeText_eq nl nr (by have := HT.out; omega) (by have := HT.out; omega))).mono ?_
      rintro x W' ⟨rfl, hb⟩
      refine ⟨_, rfl, ?_, ?_⟩
      ·
       simp only [Act.put, List.setIfInBounds_toArray, List.set_cons_zero, List.set_cons_succ]; rfl
      ·
       exact ⟨hI.1.below hb, blk_below hI.2 hb⟩
     case s4 =>
      refine rg_step rfl ?_
      rintro l a W ⟨rfl, hI⟩ hl hd
      have d0 := hd 0 (by decide)
      have d3 := hd 3 (by decide)
      clear hd
      refine rg_call rfl (by go_simp; exact ⟨rfl, rfl⟩) ?_
      refine (tag_Digest.calls wd (nodeText nl nr) dg _ (HK.out.below hI.1.hB) (by rw [HDG.out]; exact tagDigest_eq wd _ HW.out.1 HW.out.2 (by rw [nodeText_size]; have := HT.out; omega))).mono ?_
      rintro x W' ⟨rfl, hb⟩
      refine ⟨_, rfl, ?_, ?_⟩
      ·
       simp only [Act.put, List.setIfInBounds_toArray, List.set_cons_zero, List.set_cons_succ]; rfl
      ·
       exact ⟨hI.1.below hb, blk_below hI.2 hb⟩
     case s5 =>
      refine rg_step rfl ?_
      rintro l a W ⟨rfl, hI⟩ hl hd
      clear hd
      have x0 := blk_cell (hI.2) 0
      have x1 := blk_cell (hI.2) 1
      simp at x0 x1
      refine rg_val (v := .agg #[.int .u64 s0, .int .u64 s1]) (w' := W) rfl (by go_simp) ?_
      refine ⟨?_, ?_⟩
      ·
       simp only [Act.put, List.setIfInBounds_toArray, List.set_cons_zero, List.set_cons_succ]; rfl
      ·
       exact hI
     case s6 =>
      refine rg_step rfl ?_
      rintro l a W ⟨rfl, hI⟩ hl hd
      have d4 := hd 4 (by decide)
      have d5 := hd 5 (by decide)
      clear hd
      refine rg_val (v := .agg #[.string dg, .int .u64 s0, .int .u64 s1]) (w' := W) rfl (by go_simp) ?_
      refine ⟨?_, ?_⟩
      ·
       simp only [Act.put, List.setIfInBounds_toArray, List.set_cons_zero, List.set_cons_succ]; rfl
      ·
       exact hI
     case s7 =>
      refine rg_step rfl ?_
      rintro l a W ⟨rfl, hI⟩ hl hd
      have d6 := hd 6 (by decide)
      clear hd
      have hz := hI.1
      rw [if_neg (by rw [hl]; decide)] at hz
      have pf := fun i => blk_frozen hz.h6 i
      have z0 := blk_cell hz.h6 0
      have z1 := blk_cell hz.h6 1
      have z2 := blk_cell hz.h6 2
      simp at z0 z1 z2
      refine rg_skip rfl (by go_simp; rfl) ?_
      refine ⟨?_, ?_⟩
      ·
       simp only [Act.put, List.setIfInBounds_toArray, List.set_cons_zero, List.set_cons_succ]; rfl
      ·
       exact ⟨hz.put ⟨dg, ⟨s0, s1⟩⟩, blk_far (blk_far (blk_far hI.2 (by exact HG8.out) _) (by exact HG8.out) _) (by exact HG8.out) _⟩
     case s8 =>
      refine rg_step rfl ?_
      rintro l a W ⟨rfl, hI⟩ hl hd
      clear hd
      refine rg_val (v := .int .i64 0) (w' := W) rfl (by go_simp) ?_
      refine ⟨?_, ?_⟩
      ·
       simp only [Act.put, List.setIfInBounds_toArray, List.set_cons_zero, List.set_cons_succ]; rfl
      ·
       exact hI
    case hend =>
     rintro l a W ⟨rfl, hI⟩ hall
     have e0 := hall 0 (by decide)
     have e1 := hall 1 (by decide)
     have e2 := hall 2 (by decide)
     have e3 := hall 3 (by decide)
     have e4 := hall 4 (by decide)
     have e5 := hall 5 (by decide)
     have e6 := hall 6 (by decide)
     have e7 := hall 7 (by decide)
     have e8 := hall 8 (by decide)
     clear hall
     have e7' := e7
     simp only [e0, e1, e2, e3, e4, e5, e6, e7, e8, sel_true]
     clear e0 e1 e2 e3 e4 e5 e6 e7 e8
     have hn := hI.1
     rw [if_pos e7'] at hn
     have y0 := blk_cell hn.h6 0
     have y1 := blk_cell hn.h6 1
     have y2 := blk_cell hn.h6 2
     simp at y0 y1 y2
     clear hn
     have HBF := aM' hI.1.hB
     clear hI e7'
     go_wp2
     refine bodyPost_ret (v := .tuple #[.agg #[.string dg, .int .u64 s0, .int .u64 s1], .int .i64 0]) ?_ rfl ⟨by rw [HI.out, HDG.out], HBF.out⟩
     simp [results, Tryd.results59, go_sem, hu, y0, y1, y2]
   ·
    have b0 : (s2 == 0) = false := by simp [h0]
    have HI := aM' (show J = (⟨#[]⟩, 0, 0, 10) by rw [HJ.out]; unfold joinI; rw [if_pos ⟨H1.out, H2.out⟩, HSS.out, if_neg h0])
    have HZ := aM' (HS4.out.put ⟨⟨#[]⟩, ⟨0, 0⟩⟩)
    have z0 := blk_cell HS4.out.h6 0
    have z1 := blk_cell HS4.out.h6 1
    have z2 := blk_cell HS4.out.h6 2
    have pf := fun i => blk_frozen HS4.out.h6 i
    have y0 := blk_cell HZ.out.h6 0
    have y1 := blk_cell HZ.out.h6 1
    have y2 := blk_cell HZ.out.h6 2
    simp at y0 y1 y2 z0 z1 z2
    clear h0 hs8 hs9
    go_upto_region 4 with (fail)
    rw [← hg8, ← hW4]
    clear hg8 hW4
    go_wp2
    refine bodyPost_ret (v := .tuple #[.agg #[.string ⟨#[]⟩, .int .u64 0, .int .u64 0], .int .i64 10]) ?_ rfl ⟨by rw [HI.out], HZ.out.hB⟩
    simp [results, Tryd.results59, go_sem, hu, y0, y1, y2]
def node_Join.f (k : Nat) (a0 : Int) (a1_0 : ByteArray) (a1_1 : Int) (a1_2 : Int) (a2_0 : ByteArray) (a2_1 : Int) (a2_2 : Int) : Option (ByteArray × Int × Int × Int) :=
 if ((0 ≤ a1_1 ∧ a1_1 < 18446744073709551616) ∧ (0 ≤ a1_2 ∧ a1_2 < 18446744073709551616)) ∧ ((0 ≤ a2_1 ∧ a2_1 < 18446744073709551616) ∧ (0 ≤ a2_2 ∧ a2_2 < 18446744073709551616)) then some (joinI a0 ⟨a1_0, ⟨a1_1, a1_2⟩⟩ ⟨a2_0, ⟨a2_1, a2_2⟩⟩) else none
theorem node_Join.calls (k : Nat) (a0 : Int) (a1_0 : ByteArray) (a1_1 : Int) (a1_2 : Int) (a2_0 : ByteArray) (a2_1 : Int) (a2_2 : Int) (r1 : ByteArray) (r2 : Int) (r3 : Int) (r4 : Int) (w : World) (hK : Laid w) (h : node_Join.f k a0 a1_0 a1_1 a1_2 a2_0 a2_1 a2_2 = some (r1, r2, r3, r4)) :
  Calls Tryd.prog 59 #[.int .i64 a0, .agg #[.string a1_0, .int .u64 a1_1, .int .u64 a1_2], .agg #[.string a2_0, .int .u64 a2_1, .int .u64 a2_2]] w fun e w' => e = .returned (.tuple #[.agg #[.string r1, .int .u64 r2, .int .u64 r3], .int .i64 r4]) ∧ Below w.heap.size w w' := by
 unfold node_Join.f at h
 split at h
 ·
  next hh =>
  have q := node_Join.walk a0 ⟨a1_0, ⟨a1_1, a1_2⟩⟩ ⟨a2_0, ⟨a2_1, a2_2⟩⟩ w hK ⟨hh.1.1, hh.1.2⟩ ⟨hh.2.1, hh.2.2⟩
  rw [Option.some.inj h] at q
  exact q
 ·
  cases h
theorem join_ev (w : Int) (l r : SNode) (ul : OkU l.f1) (ur : OkU r.f1) : Ev (fun k => node_Join.f k w l.f0 l.f1.f0 l.f1.f1 r.f0 r.f1.f0 r.f1.f1) (joinI w l r) := by
 unfold node_Join.f
 exact Ev.congr (fun k => if_pos ⟨⟨ul.h0, ul.h1⟩, ⟨ur.h0, ur.h1⟩⟩) (Ev.now _)
end Go.Proofs.YtfcodmdckcihmaaDoor.P
namespace Go.Proofs.YtfcodmdckcihmaaDoor.P
open Go.RowKit Go.Proofs.YtfcodmdckcihmaaDoorW.PrintWords Go.Proofs.YtfcodmdckcihmaaDoorW.PrintLast Go.Proofs.YtfcodmdckcihmaaDoorW.PrintMore
set_option linter.unusedVariables false
set_option linter.unusedSimpArgs false
set_option linter.unnecessarySimpa false
theorem tagLeafText_eq (l : SLeaf) (hid : l.f1.size ≤ 1000000) (hsa : l.f2.size ≤ 1000000) : tag_LeafText.f l.f0 l.f1 l.f2 l.f3.f0 l.f3.f1 = some (leafTextI l) := by
 unfold tag_LeafText.f
 rw [if_pos ⟨hid, hsa⟩]
def leafNodeI (w : Int) (l : SLeaf) : SNode := if (1 ≤ w ∧ w ≤ 32) ∧ mayLeafI l = true then ⟨dgI w (leafTextI l), l.f3⟩ else ⟨⟨#[]⟩, ⟨0, 0⟩⟩
theorem leafTextI_size (l : SLeaf) (hid : l.f1.size ≤ 1000000) (hsa : l.f2.size ≤ 1000000) : (leafTextI l).size ≤ 3000000 := by
 have z : ∀ x : Int, (strOfNums [x]).size = 1 := fun x => by rw [strOfNums_size]; rfl
 unfold leafTextI
 split
 ·
  split
  ·
   simp only [ByteArray.size_append, z, szI_size]; omega
  ·
   simp only [ByteArray.size_append, z, szI_size, u128B_size]; omega
 ·
  decide
abbrev nodeT (n : SNode) : ByteArray × Int × Int := (n.f0, n.f1.f0, n.f1.f1)
theorem tagLeafNode_ev (w : Int) (l : SLeaf) (hid : l.f1.size ≤ 1000000) (hsa : l.f2.size ≤ 1000000) : Ev (fun k => tag_LeafNode.f k w l.f0 l.f1 l.f2 l.f3.f0 l.f3.f1) (nodeT (leafNodeI w l)) := by
 unfold tag_LeafNode.f tag_MayWidth.f leafNodeI
 rw [tagMayLeaf_eq l hid]
 have hj : ∀ b : Bool, b = true → Ev (fun k => tag_LeafNode.j0 k w b l.f0 l.f1 l.f2 l.f3.f0 l.f3.f1) ((⟨#[]⟩ : ByteArray), 0, 0) := fun b hb => by
  subst hb; exact Ev.step (f := fun _ => some ((⟨#[]⟩ : ByteArray), (0 : Int), (0 : Int))) (fun k => by rw [tag_LeafNode.j0, if_pos rfl]) (Ev.now _)
 by_cases h1 : w ≥ 1
 ·
  by_cases h2 : w ≤ 32
  ·
   simp only [if_pos h1, decide_eq_true h2, Option.bind_some, if_true]
   cases hm : mayLeafI l with
   | false => rw [if_neg (by simp)]; exact hj _ rfl
   | true =>
    rw [if_pos ⟨⟨h1, h2⟩, rfl⟩]
    refine Ev.step (f := fun _ => some _) (fun k => ?_) (Ev.now _)
    rw [tag_LeafNode.j0, if_neg (by decide), tagLeafText_eq l hid hsa]
    simp only [Option.bind_some, tagDigest_eq w (leafTextI l) h1 h2 (by have := leafTextI_size l hid hsa; omega)]
  ·
   simp only [if_pos h1, decide_eq_false h2, Option.bind_some]
   rw [if_neg (fun h => h2 h.1.2)]; exact hj _ rfl
 ·
  simp only [if_neg h1, Option.bind_some]
  rw [if_neg (fun h => h1 h.1.1)]; exact hj _ rfl
theorem leafNodeI_ok (w : Int) (l : SLeaf) (ub : OkU l.f3) : OkU (leafNodeI w l).f1 := by
 unfold leafNodeI; split
 ·
  exact ub
 ·
  exact ⟨⟨by decide, by decide⟩, ⟨by decide, by decide⟩⟩
end Go.Proofs.YtfcodmdckcihmaaDoor.P
namespace Go.Proofs.YtfcodmdckcihmaaDoor.P
open Go.RowKit Go.Proofs.YtfcodmdckcihmaaDoorW.PrintWords Go.Proofs.YtfcodmdckcihmaaDoorW.PrintLast Go.Proofs.YtfcodmdckcihmaaDoorW.PrintMore
set_option linter.unusedVariables false
set_option linter.unusedSimpArgs false
set_option linter.unnecessarySimpa false
theorem rdLeaf_nat (l : List SLeaf) (i : Nat) (h : i < l.length) : rd_TLeaf l (i : Int) = l[i] := by simp [rd_TLeaf, h]
theorem great15_loop (l : List SLeaf) (hl : l.length ≤ 9223372036854775807) : ∀ d i : Nat, i + d = l.length → Ev (fun k => paymasterlaw15_Great.l0 k l (i : Int)) ((l.drop i).any fun n => decide (200 < n.f1.size) || decide (200 < n.f2.size)) := by
 intro d
 induction d with
 | zero =>
  intro i hi
  refine Ev.step (f := fun _ => some false) (fun k => ?_) (ev_eq (Ev.now false) ?_)
  ·
   simp only [paymasterlaw15_Great.l0]; rw [if_neg (by omega)]
  ·
   rw [List.drop_of_length_le (by omega)]; rfl
 | succ d ih =>
  intro i hi
  have hlt : i < l.length := by omega
  rw [any_drop_succ _ l i hlt]
  by_cases hb : 200 < l[i].f1.size
  ·
   refine Ev.step (f := fun _ => some true) (fun k => ?_) (ev_eq (Ev.now true) (by simp [hb]))
   simp only [paymasterlaw15_Great.l0]; rw [if_pos (by omega), if_pos (by omega), rdLeaf_nat l i hlt, if_pos (by omega)]
  ·
   by_cases hc : 200 < l[i].f2.size
   ·
    refine Ev.step (f := fun _ => some true) (fun k => ?_) (ev_eq (Ev.now true) (by simp [hc]))
    simp only [paymasterlaw15_Great.l0]; rw [if_pos (by omega), if_pos (by omega), rdLeaf_nat l i hlt, if_neg (by omega), if_pos (by omega)]
   ·
    refine Ev.step (f := fun k => paymasterlaw15_Great.l0 k l ((i + 1 : Nat) : Int)) (fun k => ?_) (ev_eq (ih (i + 1) (by omega)) (by simp [hb, hc]))
    simp only [paymasterlaw15_Great.l0]; rw [if_pos (by omega), if_pos (by omega), rdLeaf_nat l i hlt, if_neg (by omega), if_neg (by omega), wrap64_id (by omega) (by omega)]; rfl
def greatL (l : List SLeaf) : Bool := decide (70 < l.length) || l.any fun n => decide (200 < n.f1.size) || decide (200 < n.f2.size)
theorem great15_ev (l : List SLeaf) (hl : l.length ≤ 9223372036854775807) : Ev (fun k => paymasterlaw15_Great.f k l) (greatL l) := by
 unfold paymasterlaw15_Great.f greatL
 by_cases h : 70 < l.length
 ·
  exact Ev.some_ (fun k => by rw [if_pos (by omega)]; simp [h])
 ·
  refine Ev.congr (fun k => by rw [if_neg (by omega)]; rfl) (ev_eq (great15_loop l hl l.length 0 (by omega)) (by simp [h]))
def shapeN (a0 a1 p : Int) (l : List SNode) : Int := if a1 < 0 ∨ a1 > 63 then 120 else if a0 < 1 ∨ a0 > 32 ∨ l.any (fun n => !nodeOf a0 n) = true then 70 else if (l.length : Int) ≠ a1 ∨ p / 2 ^ a1.toNat ≠ 0 then 160 else 0
theorem proofShape_eq (a0 a1 p : Int) (l : List SNode) : proof_Shape.f a0 a1 p l = some (shapeN a0 a1 p l) := rfl
end Go.Proofs.YtfcodmdckcihmaaDoor.P
namespace Go.Proofs.YtfcodmdckcihmaaDoor.P
open Go.RowKit Go.Proofs.YtfcodmdckcihmaaDoorW.PrintWords Go.Proofs.YtfcodmdckcihmaaDoorW.PrintLast Go.Proofs.YtfcodmdckcihmaaDoorW.PrintMore
set_option linter.unusedVariables false
set_option linter.unusedSimpArgs false
set_option linter.unnecessarySimpa false
attribute [local go_sem] Oper.semAt_some
theorem nodesKeep {w w' : World} {A : Option Addr} {n : Nat} {l : List SNode} (h : Kd.C kNode w A n l) (hb : ∀ a, A = some a → w'.heap[a.block]? = w.heap[a.block]?) : Kd.C kNode w' A n l := by
 obtain ⟨h1, h2, h3⟩ := h
 refine ⟨h1, h2, fun h0 => ?_⟩
 obtain ⟨a, ha, hall⟩ := h3 h0
 refine ⟨a, ha, fun j p hj => ?_⟩
 obtain ⟨cs, hl, hK, hc⟩ := hall j p hj
 obtain rfl := kNode_open hK
 refine ⟨_, hl, kNode_mk w' p, fun i u hu => ?_⟩
 rw [← hc i u hu]
 refine World.cell?_of_block ?_
 have : (a.add (j * kNode.sz + i)).block = a.block := by unfold Addr.add; split <;> rfl
 rw [this]
 exact hb a ha
def KeepS (S : Nat → Prop) (W W' : World) : Prop := ∀ k, S k → W'.heap[k]? = W.heap[k]?
theorem KeepS.trans {S : Nat → Prop} {A B C : World} (h : KeepS S A B) (k : KeepS S B C) : KeepS S A C := fun i hi => (k i hi).trans (h i hi)
theorem KeepS.alloc {S : Nat → Prop} {W w : World} (h : KeepS S W w) (hlt : ∀ k, S k → k < W.heap.size) (v : Obj) : KeepS S W (w.alloc v).drew := fun k hk => by
 have h1 := h k hk
 have h2 : k < w.heap.size := by
  rw [Array.getElem?_eq_getElem (hlt k hk)] at h1
  exact (Array.getElem?_eq_some_iff.1 h1).1
 exact ((World.grownBy_alloc w v none).block k h2 (by simp)).trans h1
def rightS (p : Int) (k : Nat) : Bool := Go.bits .and .u64 (p / 2 ^ k) 1 == 0
def turnsTo (p : Int) (xs : List SNode) (k : Nat) : List (SNode × Bool) := (List.range k).map fun i => (xs.getD i ⟨ByteArray.empty, ⟨0, 0⟩⟩, rightS p i)
theorem turnsTo_succ (p : Int) (xs : List SNode) (k : Nat) (h : k < xs.length) : turnsTo p xs (k + 1) = turnsTo p xs k ++ [(xs[k], rightS p k)] := by
 simp [turnsTo, List.range_succ, List.getD_eq_getElem?_getD, h]
theorem turnsTo_length (p : Int) (xs : List SNode) (k : Nat) : (turnsTo p xs k).length = k := by simp [turnsTo]
abbrev turnV (x : SNode × Bool) : Array Value := #[nodeV x.1, .bool x.2]
theorem grown_drew (W : World) : W.grownBy W.drew none := ⟨rfl, rfl, rfl, Nat.le_refl _, fun _ _ _ => rfl⟩
theorem bar_none {w w1 w2 : World} (h : w.grownBy w1 none) (k : w1.grownBy w2 none) : w.grownBy w2 none :=
 ⟨k.os.trans h.os, k.tape.trans h.tape, k.output.trans h.output, Nat.le_trans h.size k.size, fun i hi hn => (k.block i (lL' hi h.size) hn).trans (h.block i hi hn)⟩
set_option maxRecDepth 100000 in
set_option maxHeartbeats 400000 in
theorem turns1_in (F : Fence) (n : Nat) (hf : F.fn 108) (hro : F.round = none) (hn : 1 ≤ n) (l sb pb B : Nat) (p : Int) (hp : 0 ≤ p) (A : Option Addr) (c : Nat) (xs : List SNode) (hx63 : xs.length ≤ 63) (S : Nat → Prop) (hSs : S sb) (hSp : S pb) (hSA : 0 < xs.length → ∀ a, A = some a → S a.block) (Ok : SNode → Prop) (hok : ∀ x ∈ xs, Ok x)
  (J Jx : List (SNode × Bool) → World → Prop) (hJ : AbidesFrom B J)
  (hY : ∀ pre x W, Ok x.1 → J pre W → pre.length < xs.length → YieldAt F (n - 1) Tryd.prog l (turnV x) W fun e W' => (e = .returned (.bool true) ∧ J (pre ++ [x]) W' ∧ KeepS S W W') ∨ (e = .returned (.bool false) ∧ Jx (pre ++ [x]) W'))
  (W : World) (hs : W.heap[sb]? = some (.cells #[.slice A xs.length c] 43 (0, 0))) (hpb : W.heap[pb]? = some (.cells #[.int .u64 p] 23 (0, 0))) (hr : Kd.C kNode W A xs.length xs) (hlt : ∀ k, S k → k < W.heap.size) (h0 : J [] W) :
  CallsIn F n Tryd.prog 108 #[.func (.yield l) #[] #[], .pointer (some ⟨sb, 0, none⟩), .pointer (some ⟨pb, 0, none⟩)] W fun e W' => (∃ v, e = .returned v) ∧ ((∃ ys, ys = turnsTo p xs xs.length ∧ J ys W') ∨ (∃ pre, (∃ k, k ≤ xs.length ∧ pre = turnsTo p xs k) ∧ Jx pre W')) := by
 obtain ⟨Ff, Fd, Fa, Fr⟩ := F
 obtain rfl : Fr = none := hro
 have hs0 : W.cell? ⟨sb, 0, none⟩ = some (.slice A xs.length c) := blk_cell hs 0
 have HS := aM' hs
 have HP := aM' hpb
 have HR := aM' hr
 have HL := aM' hlt
 have HJ := aM' hJ
 have HY := aM' hY
 have HOK := aM' hok
 clear hok
 clear hs hpb hr hlt hJ hY
 refine callsIn_of_wp Tryd.func108 rfl hf ?_
 simp only [Tryd.ntmps108, List.size_toArray, List.length_cons, List.length_nil, Nat.reduceAdd, Nat.reduceSub, Array.replicate_succ, Array.replicate_zero, List.push_toArray, List.append_toArray, List.nil_append, List.cons_append]
 gi_wp2
 clear hs0
 gi_loopw [8] (fun i wr => ∃ k : Nat, k ≤ xs.length ∧ i = .int .i64 k ∧ Aside0 (J (turnsTo p xs k) wr) ∧ Aside0 (KeepS S W wr)) (fun i _ => xs.length - (intOf i).toNat)
 case atStart => exact ⟨0, Nat.zero_le _, rfl, ⟨h0⟩, ⟨fun _ _ => rfl⟩⟩
 case round =>
  obtain ⟨k, hk, rfl, HJs, HK⟩ := hrel
  by_cases hlt : k < xs.length
  ·
   have b1 : decide ((k : Int) < (xs.length : Int)) = true := decide_eq_true (by omega)
   have p1 : 0 ≤ (k : Int) := by omega
   have p2 : (k : Int) < (xs.length : Int) := by omega
   have hr2 : Kd.C kNode wr A xs.length xs := nodesKeep HR.out (fun a ha => HK.out _ (hSA (by omega) a ha))
   obtain ⟨ad, e, hx0, hx1, hx2⟩ := at_TNode hr2 (k : Int) p1 p2
   rw [rd_TNode_at xs k hlt, Int.toNat_natCast] at hx0 hx1 hx2
   obtain ⟨x, hx⟩ : ∃ x, x = xs[k] := ⟨_, rfl⟩
   rw [← hx] at hx0 hx1 hx2
   have hp0 : wr.cell? ⟨pb, 0, none⟩ = some (.int .u64 p) := blk_cell ((HK.out pb hSp).trans HP.out) 0
   have hpl : pb < wr.heap.size := blk_lt ((HK.out pb hSp).trans HP.out)
   have hpn : pb ≠ wr.heap.size := Nat.ne_of_lt hpl
   have HX := aM' hx
   have hokx : Ok x := by rw [hx]; exact HOK.out _ (List.getElem_mem _)
   clear hx
   cases e
   have hg1 : wr.grownBy (wr.alloc (.cells #[.string x.f0, .int .u64 x.f1.f0, .int .u64 x.f1.f1] 46)).drew none := bar_none (World.grownBy_alloc wr _ none) (grown_drew _)
   obtain ⟨fn, tmps, assign, body, hy, hR⟩ := HY.out (turnsTo p xs k) (x, rightS p k) (wr.alloc (.cells #[.string x.f0, .int .u64 x.f1.f0, .int .u64 x.f1.f1] 46)).drew hokx (HJ.out _ wr _ none HJs.out hg1 (fun r e => by cases e)) (by rw [turnsTo_length]; exact hlt)
   have hy2 : (Instr.yield l #[.agg #[.string x.f0, .int .u64 x.f1.f0, .int .u64 x.f1.f1], .bool (Go.bits .and .u64 (p / 2 ^ k) 1 == 0)]).run Tryd.prog (wr.alloc (.cells #[.string x.f0, .int .u64 x.f1.f0, .int .u64 x.f1.f1] 46)).drew = .ok (.round l fn tmps assign body) (wr.alloc (.cells #[.string x.f0, .int .u64 x.f1.f0, .int .u64 x.f1.f1] 46)).drew := hy
   have hR2 := hR.mono (fun e W' h => (show ∃ b : Bool, e = .returned (.bool b) ∧ Aside0 ((b = true ∧ J (turnsTo p xs k ++ [(x, rightS p k)]) W' ∧ KeepS S (wr.alloc (.cells #[.string x.f0, .int .u64 x.f1.f0, .int .u64 x.f1.f1] 46)).drew W') ∨ (b = false ∧ Jx (turnsTo p xs k ++ [(x, rightS p k)]) W')) from
    h.elim (fun h => ⟨true, h.1, ⟨.inl ⟨rfl, h.2⟩⟩⟩) (fun h => ⟨false, h.1, ⟨.inr ⟨rfl, h.2⟩⟩⟩)))
   clear hy hR
   gi_wp2
   clear hg1 hr2
   gi_region_with (refine hR2.mono ?_; clear hR2 hy2 hx0 hx1 hx2 hp0 b1 p1 p2 hpn hpl; rintro e W3 ⟨b, rfl, HE⟩)
   all_goals
    have HKW := aM' (HK.out.alloc HL.out (.cells #[.string x.f0, .int .u64 x.f1.f0, .int .u64 x.f1.f1] 46))
    have HE2 := aM' (show turnsTo p xs (k + 1) = turnsTo p xs k ++ [(x, rightS p k)] by rw [turnsTo_succ p xs k hlt, HX.out])
    cases b with
    | true =>
     obtain ⟨-, hJ2, hK2⟩ | ⟨h, -⟩ := HE.out
     case inr => exact absurd h (by decide)
     have HJ2 := aM' hJ2
     have HK2 := aM' hK2
     clear hJ2 hK2
     gi_wp2
     exact ⟨⟨k + 1, hlt, rfl, ⟨by rw [HE2.out]; exact HJ2.out⟩, ⟨HKW.out.trans HK2.out⟩⟩, by simp [intOf]; omega⟩
    | false =>
     obtain ⟨h, -⟩ | ⟨-, hJ2⟩ := HE.out
     case inl => exact absurd h (by decide)
     have HJ2 := aM' hJ2
     clear hJ2
     gi_wp2
     refine bodyPost_ret (results_none rfl _ _ _) rfl ?_
     exact ⟨⟨_, rfl⟩, .inr ⟨_, ⟨k + 1, hlt, HE2.out.symm⟩, HJ2.out⟩⟩
  ·
   have b1 : decide ((k : Int) < (xs.length : Int)) = false := decide_eq_false (by omega)
   obtain rfl : k = xs.length := by omega
   gi_wp2
   go_end0
   exact ⟨⟨_, rfl⟩, .inl ⟨_, rfl, HJs.out⟩⟩
end Go.Proofs.YtfcodmdckcihmaaDoor.P
namespace Go.Proofs.YtfcodmdckcihmaaDoor.P
open Go.RowKit Go.Proofs.YtfcodmdckcihmaaDoorW.PrintWords Go.Proofs.YtfcodmdckcihmaaDoorW.PrintLast Go.Proofs.YtfcodmdckcihmaaDoorW.PrintMore
set_option linter.unusedVariables false
set_option linter.unusedSimpArgs false
set_option linter.unnecessarySimpa false
theorem all1.calls (wd : Int) (B : Nat) (x : SNode) (W : World) (hB : W.heap[B]? = some (.cells #[.int .i64 wd] 3 (0, 0))) :
  Calls Tryd.prog 103 #[nodeV x, .pointer (some ⟨B, 0, none⟩)] W fun e W' => e = .returned (.bool (!nodeOf wd x)) ∧ Below W.heap.size W W' := by
 have hc : W.cell? ⟨B, 0, none⟩ = some (.int .i64 wd) := blk_cell hB 0
 have hlt : B < W.heap.size := blk_lt hB
 have hne : B ≠ W.heap.size := Nat.ne_of_lt hlt
 go_enter Tryd.func103, Tryd.ntmps103
 go_wp2_with fail
 refine (node_Of.calls wd x.f0 x.f1.f0 x.f1.f1 (nodeOf wd x) _ (node_Of_eq wd x)).mono ?_
 rintro e w1 ⟨rfl, hb⟩
 go_wp2
 go_ret
 exact ⟨rfl, (below_alloc (Below.refl _ _) _).trans (hb.mono (by simp))⟩
set_option maxRecDepth 100000 in
set_option maxHeartbeats 1000000 in
theorem all.calls (wd : Int) (A : Option Addr) (c : Nat) (l : List SNode) (w : World) (hr : Kd.C kNode w A l.length l) :
  Calls Tryd.prog 73 #[.int .i64 wd, .slice A l.length c] w fun e w' => e = .returned (.bool (decide (1 ≤ wd) && (decide (wd ≤ 32) && l.all (nodeOf wd)))) ∧ Below w.heap.size w w' := by
 have HR := aM' hr
 clear hr
 have e0 : (!l.any fun x => !nodeOf wd x) = l.all (nodeOf wd) := by rw [List.all_eq_not_any_not]
 go_enter Tryd.func73, Tryd.ntmps73
 by_cases h1 : 1 ≤ wd
 ·
  have b1 : decide (1 ≤ wd) = true := decide_eq_true h1
  by_cases h2 : wd ≤ 32
  ·
   have b2 : decide (wd ≤ 32) = true := decide_eq_true h2
   go_wp2_with fail
   have hcb : (w.alloc (.cells #[.int .i64 wd] 3)).heap[w.heap.size]? = some (.cells #[.int .i64 wd] 3 (0, 0)) := blk_new w _
   have hB0 : Below w.heap.size w (w.alloc (.cells #[.int .i64 wd] 3)) := below_alloc (Below.refl _ _) _
   refine (anyNode.calls 103 _ (fun x => !nodeOf wd x) A c l _ (Kd.C_below HR.out hB0) (fun _ _ => enters_of Tryd.func103 (by kernel_rfl) rfl _ _) (fun W x hW => all1.calls wd w.heap.size x W (blk_below hcb hW))).mono ?_
   rintro e w1 ⟨rfl, hb⟩
   have HB1 := aM' (hB0.trans (hb.mono hB0.size))
   clear hb hcb hB0
   go_wp2_with fail
   go_ret
   exact ⟨by simp only [b1, b2, Bool.true_and]; rw [← e0]; rfl, HB1.out⟩
  ·
   have b2 : decide (wd ≤ 32) = false := decide_eq_false h2
   go_wp2_with fail
   go_ret
   exact ⟨by simp [b2], below_alloc (Below.refl _ _) _⟩
 ·
  have b1 : decide (1 ≤ wd) = false := decide_eq_false h1
  go_wp2_with fail
  go_ret
  exact ⟨by simp [b1], below_alloc (Below.refl _ _) _⟩
end Go.Proofs.YtfcodmdckcihmaaDoor.P
namespace Go.Proofs.YtfcodmdckcihmaaDoor.P
open Go.RowKit Go.Proofs.YtfcodmdckcihmaaDoorW.PrintWords Go.Proofs.YtfcodmdckcihmaaDoorW.PrintLast Go.Proofs.YtfcodmdckcihmaaDoorW.PrintMore
set_option linter.unusedVariables false
set_option linter.unusedSimpArgs false
set_option linter.unnecessarySimpa false
attribute [local go_sem] Oper.semAt_some
theorem turns.calls (p : Int) (A : Option Addr) (m c : Nat) (w : World) : Calls Tryd.prog 81 #[.int .u64 p, .slice A m c] w fun e w' => e = .returned (.func (.func 108) #[] #[.pointer (some ⟨w.heap.size + 1, 0, none⟩), .pointer (some ⟨w.heap.size, 0, none⟩)]) ∧ w' = (w.alloc (.cells #[.int .u64 p] 23)).alloc (.cells #[.slice A m c] 43) := by
 go_enter Tryd.func81, Tryd.ntmps81
 go_wp2
 go_ret
 exact ⟨rfl, rfl⟩
def stepI (w : Int) (n : SNode) (x : SNode × Bool) : ByteArray × Int × Int × Int := if x.2 then joinI w n x.1 else joinI w x.1 n
abbrev nodeJ (j : ByteArray × Int × Int × Int) : SNode := ⟨j.1, ⟨j.2.1, j.2.2.1⟩⟩
def climbL (w : Int) : SNode → List (SNode × Bool) → ByteArray × Int × Int × Int
 | n, [] => (n.f0, n.f1.f0, n.f1.f1, 0)
 | n, x :: xs => if (stepI w n x).2.2.2 = 0 then climbL w (nodeJ (stepI w n x)) xs else (⟨#[]⟩, 0, 0, (stepI w n x).2.2.2)
def climbI (w : Int) (n : SNode) (p : Int) (l : List SNode) : ByteArray × Int × Int × Int :=
 if nodeOf w n = true ∧ l.all (nodeOf w) = true then (if 63 < l.length then (⟨#[]⟩, 0, 0, 2) else climbL w n (turnsTo p l l.length)) else (⟨#[]⟩, 0, 0, 70)
def upTo (w : Int) : SNode → List (SNode × Bool) → Option SNode
 | n, [] => some n
 | n, x :: xs => if (stepI w n x).2.2.2 = 0 then upTo w (nodeJ (stepI w n x)) xs else none
theorem climbL_up (w : Int) (rest : List (SNode × Bool)) : ∀ (pre : List (SNode × Bool)) (n st : SNode), upTo w n pre = some st → climbL w n (pre ++ rest) = climbL w st rest
 | [], n, st, h => by cases h; rfl
 | x :: xs, n, st, h => by
  unfold upTo at h
  split at h
  ·
   rename_i h0
   show climbL w n (x :: (xs ++ rest)) = _
   unfold climbL
   rw [if_pos h0]
   have := climbL_up w rest xs _ st h
   rw [this]
   cases rest <;> rfl
  ·
   cases h
theorem upTo_snoc (w : Int) (x : SNode × Bool) : ∀ (pre : List (SNode × Bool)) (n st : SNode), upTo w n pre = some st → (stepI w st x).2.2.2 = 0 → upTo w n (pre ++ [x]) = some (nodeJ (stepI w st x))
 | [], n, st, h, h0 => by cases h; show upTo w n [x] = _; unfold upTo; rw [if_pos h0]; rfl
 | y :: ys, n, st, h, h0 => by
  unfold upTo at h
  split at h
  ·
   rename_i h1
   show upTo w n (y :: (ys ++ [x])) = _
   unfold upTo
   rw [if_pos h1]
   exact upTo_snoc w x ys _ st h h0
  ·
   cases h
theorem turnsTo_pre (p : Int) (l : List SNode) (k : Nat) : ∀ d, ∃ rest, turnsTo p l (k + d) = turnsTo p l k ++ rest
 | 0 => ⟨[], by simp⟩
 | d + 1 => by
  obtain ⟨r, hr⟩ := turnsTo_pre p l k d
  refine ⟨r ++ [(l.getD (k + d) ⟨ByteArray.empty, ⟨0, 0⟩⟩, rightS p (k + d))], ?_⟩
  rw [← List.append_assoc, ← hr]
  simp [turnsTo, ← Nat.add_assoc, List.range_succ]
theorem addI128_ok (a b c d : Int) (ha : 0 ≤ a) (hb : 0 ≤ b) (hc : 0 ≤ c) (hd : 0 ≤ d) : 0 ≤ (addI128 a b c d).1 ∧ (addI128 a b c d).1 < 18446744073709551616 ∧ 0 ≤ (addI128 a b c d).2.1 ∧ (addI128 a b c d).2.1 < 18446744073709551616 := by
 unfold addI128
 split
 ·
  refine ⟨?_, ?_, ?_, ?_⟩ <;> dsimp only <;> omega
 ·
  refine ⟨?_, ?_, ?_, ?_⟩ <;> dsimp only <;> omega
theorem joinI_ok (w : Int) (l r : SNode) (ul : OkU l.f1) (ur : OkU r.f1) : OkU (nodeJ (joinI w l r)).f1 := by
 have h := addI128_ok l.f1.f0 l.f1.f1 r.f1.f0 r.f1.f1 ul.h0.1 ul.h1.1 ur.h0.1 ur.h1.1
 unfold joinI
 split
 ·
  split
  ·
   exact ⟨⟨h.1, h.2.1⟩, ⟨h.2.2.1, h.2.2.2⟩⟩
  ·
   exact ⟨⟨by simp, by simp⟩, ⟨by simp, by simp⟩⟩
 ·
  exact ⟨⟨by simp, by simp⟩, ⟨by simp, by simp⟩⟩
abbrev nodeA (n : SNode) : Array Value := #[.string n.f0, .int .u64 n.f1.f0, .int .u64 n.f1.f1]
structure Clim (w : World) (wd : Int) (st r2 : SNode) (r3 : Int) (W : World) : Prop where
 h0 : W.heap[w.heap.size]? = some (.cells #[.int .i64 wd] 3 (0, 0))
 h1 : W.heap[w.heap.size + 1]? = some (.cells (nodeA st) 46 (0, 0))
 h2 : W.heap[w.heap.size + 1 + 1]? = some (.cells (nodeA r2) 46 (0, 0))
 h3 : W.heap[w.heap.size + 1 + 1 + 1]? = some (.cells #[.int .i64 r3] 26 (0, 0))
 hB : Below w.heap.size w W
theorem Clim.lt {w W : World} {wd r3 : Int} {st r2 : SNode} (h : Clim w wd st r2 r3 W) : w.heap.size + 1 + 1 + 1 < W.heap.size := blk_lt h.h3
theorem Clim.below {w W W' : World} {wd r3 : Int} {st r2 : SNode} (h : Clim w wd st r2 r3 W) (hb : Below W.heap.size W W') : Clim w wd st r2 r3 W' :=
 ⟨blk_below h.h0 hb, blk_below h.h1 hb, blk_below h.h2 hb, blk_below h.h3 hb, h.hB.trans (hb.mono h.hB.size)⟩
theorem Clim.own {w X Y : World} {wd r3 : Int} {st r2 : SNode} {B : Nat} {row : Option Nat} (h : Clim w wd st r2 r3 X) (hg : X.grownBy Y row) (hlt : w.heap.size + 1 + 1 + 1 < B) (hr : ∀ r, row = some r → B ≤ r) : Clim w wd st r2 r3 Y := by
 have hl := h.lt
 have hk : ∀ k, k ≤ w.heap.size + 1 + 1 + 1 → Y.heap[k]? = X.heap[k]? := fun k hk => hg.block k (by omega) (fun e => by have := hr k e.symm; omega)
 exact ⟨(hk _ (by omega)).trans h.h0, (hk _ (by omega)).trans h.h1, (hk _ (by omega)).trans h.h2, (hk _ (by omega)).trans h.h3, ⟨hg.os.trans h.hB.os, hg.tape.trans h.hB.tape, hg.output.trans h.hB.output, Nat.le_trans h.hB.size hg.size, fun i hi => (hk i (by omega)).trans (h.hB.block i hi)⟩⟩
theorem climb_results (tmps : Array Value) (W : World) (g2 g3 : Nat) (x y z e : Value) (h8 : tmps.getD 8 undef = .pointer (some ⟨g2, 0, none⟩)) (h9 : tmps.getD 9 undef = .pointer (some ⟨g3, 0, none⟩)) (hg2 : W.heap[g2]? = some (.cells #[x, y, z] 46 (0, 0))) (hg3 : W.heap[g3]? = some (.cells #[e] 26 (0, 0))) :
  (results Tryd.f40 tmps).run Tryd.prog W = .ok (.tuple #[.agg #[x, y, z], e]) W := by
 have h8' : tmps[8]?.getD undef = .pointer (some ⟨g2, 0, none⟩) := by simpa using h8
 have h9' : tmps[9]?.getD undef = .pointer (some ⟨g3, 0, none⟩) := by simpa using h9
 have hr : Tryd.f40.results = #[.cell 8 46, .cell 9 26] := rfl
 have hc : W.cell? ⟨g3, 0, none⟩ = some e := blk_cell hg3 0
 have h1 := run_loadVar_row W g2 46 46 #[x, y, z] (0, 0) _ hg2 Tryd.underlying46 rfl (by kernel_rfl)
 have hu := Tryd.underlying26
 have h2 : (loadVar 26 ⟨g3, 0, none⟩).run Tryd.prog W = .ok e W := by
  go_simp
 simp [results, hr, h8', h9', asAddr, h1, h2]
theorem Clim.put {w W : World} {wd r3 : Int} {st r2 : SNode} (h : Clim w wd st r2 r3 W) (x : SNode) (e : Int) :
  Clim w wd st x e ((((W.setCell ⟨w.heap.size + 1 + 1, 0, none⟩ (.string x.f0)).setCell ⟨w.heap.size + 1 + 1, 1, none⟩ (.int .u64 x.f1.f0)).setCell ⟨w.heap.size + 1 + 1, 2, none⟩ (.int .u64 x.f1.f1)).setCell ⟨w.heap.size + 1 + 1 + 1, 0, none⟩ (.int .i64 e)) := by
 have a1 := blk_put (cs' := nodeA ⟨x.f0, r2.f1⟩) h.h2 0 (.string x.f0) rfl
 have a2 := blk_put (cs' := nodeA ⟨x.f0, ⟨x.f1.f0, r2.f1.f1⟩⟩) a1 1 (.int .u64 x.f1.f0) rfl
 have a3 := blk_put (cs' := nodeA x) a2 2 (.int .u64 x.f1.f1) rfl
 exact ⟨blk_far (blk_far (blk_far (blk_far h.h0 (by (try dsimp only); omega) _) (by (try dsimp only); omega) _) (by (try dsimp only); omega) _) (by (try dsimp only); omega) _, blk_far (blk_far (blk_far (blk_far h.h1 (by (try dsimp only); omega) _) (by (try dsimp only); omega) _) (by (try dsimp only); omega) _) (by (try dsimp only); omega) _,
  blk_far a3 (by (try dsimp only); omega) _, blk_put (blk_far (blk_far (blk_far h.h3 (by (try dsimp only); omega) _) (by (try dsimp only); omega) _) (by (try dsimp only); omega) _) 0 (.int .i64 e) rfl,
  below_set (below_set (below_set (below_set h.hB (by (try dsimp only); omega)) (by (try dsimp only); omega)) (by (try dsimp only); omega)) (by (try dsimp only); omega)⟩
theorem Clim.step {w W : World} {wd r3 : Int} {st r2 : SNode} (h : Clim w wd st r2 r3 W) (x : SNode) :
  Clim w wd x r2 r3 (((W.setCell ⟨w.heap.size + 1, 0, none⟩ (.string x.f0)).setCell ⟨w.heap.size + 1, 1, none⟩ (.int .u64 x.f1.f0)).setCell ⟨w.heap.size + 1, 2, none⟩ (.int .u64 x.f1.f1)) := by
 have a1 := blk_put (cs' := nodeA ⟨x.f0, st.f1⟩) h.h1 0 (.string x.f0) rfl
 have a2 := blk_put (cs' := nodeA ⟨x.f0, ⟨x.f1.f0, st.f1.f1⟩⟩) a1 1 (.int .u64 x.f1.f0) rfl
 have a3 := blk_put (cs' := nodeA x) a2 2 (.int .u64 x.f1.f1) rfl
 exact ⟨blk_far (blk_far (blk_far h.h0 (by (try dsimp only); omega) _) (by (try dsimp only); omega) _) (by (try dsimp only); omega) _, a3, blk_far (blk_far (blk_far h.h2 (by (try dsimp only); omega) _) (by (try dsimp only); omega) _) (by (try dsimp only); omega) _, blk_far (blk_far (blk_far h.h3 (by (try dsimp only); omega) _) (by (try dsimp only); omega) _) (by (try dsimp only); omega) _,
  below_set (below_set (below_set h.hB (by (try dsimp only); omega)) (by (try dsimp only); omega)) (by (try dsimp only); omega)⟩
theorem climb_ret {w W : World} {wd r3 : Int} {st r2 : SNode} {tmps : Array Value} {R : Ending → World → Prop} (h : Clim w wd st r2 r3 W) (h8 : tmps.getD 8 undef = .pointer (some ⟨w.heap.size + 1 + 1, 0, none⟩)) (h9 : tmps.getD 9 undef = .pointer (some ⟨w.heap.size + 1 + 1 + 1, 0, none⟩))
  (hR : R (.returned (.tuple #[nodeV r2, .int .i64 r3])) W) : bodyPostM Fence.wide 3 Tryd.prog Tryd.f40 R .ret { tmps := tmps, defers := [] } W :=
 ⟨_, climb_results _ _ _ _ _ _ _ _ h8 h9 h.h2 h.h3, hR⟩
theorem blk_res {W : World} {B2 B3 D : Nat} {o : Obj} (h : W.heap[D]? = some o) (h2 : D ≠ B2) (h3 : D ≠ B3) (a b c d : Value) :
  ((((W.setCell ⟨B2, 0, none⟩ a).setCell ⟨B2, 1, none⟩ b).setCell ⟨B2, 2, none⟩ c).setCell ⟨B3, 0, none⟩ d).heap[D]? = some o := by
 rw [Below.heap_setCell _ _ _ _ h3, Below.heap_setCell _ _ _ _ h2, Below.heap_setCell _ _ _ _ h2, Below.heap_setCell _ _ _ _ h2]
 exact h
theorem climb_retD {w W : World} {wd r3 : Int} {st r2 : SNode} {tmps : Array Value} {R : Ending → World → Prop} {D : Nat} (h : Clim w wd st r2 r3 W) (hD : w.heap.size + 1 + 1 + 1 < D) (hdf : W.heap[D]? = some (.deferred (some []))) (h8 : tmps.getD 8 undef = .pointer (some ⟨w.heap.size + 1 + 1, 0, none⟩)) (h9 : tmps.getD 9 undef = .pointer (some ⟨w.heap.size + 1 + 1 + 1, 0, none⟩))
  (hR : ∀ W', Below w.heap.size w W' → R (.returned (.tuple #[nodeV r2, .int .i64 r3])) W') : bodyPostM Fence.wide 3 Tryd.prog Tryd.f40 R .ret { tmps := tmps, defers := [{ target := .collected D, args := #[] }] } W := by
 refine ⟨by simp, .inl ⟨_, _, rfl, run_takeDeferred hdf, ?_⟩⟩
 refine ⟨_, climb_results _ _ _ _ _ _ _ _ h8 h9 ((World.putObj_heap_other (by omega)).trans h.h2) ((World.putObj_heap_other (by omega)).trans h.h3), hR _ ?_⟩
 exact ⟨h.hB.os, h.hB.tape, h.hB.output, by simpa using h.hB.size, fun i hi => (World.putObj_heap_other (by omega)).trans (h.hB.block i hi)⟩
theorem put3 {W : World} {g : Nat} {z : SNode} (h : W.heap[g]? = some (.cells (nodeA z) 46 (0, 0))) (x : SNode) :
  (((W.setCell ⟨g, 0, none⟩ (.string x.f0)).setCell ⟨g, 1, none⟩ (.int .u64 x.f1.f0)).setCell ⟨g, 2, none⟩ (.int .u64 x.f1.f1)).heap[g]? = some (.cells (nodeA x) 46 (0, 0)) := by
 have a1 := blk_put (cs' := nodeA ⟨x.f0, z.f1⟩) h 0 (.string x.f0) rfl
 have a2 := blk_put (cs' := nodeA ⟨x.f0, ⟨x.f1.f0, z.f1.f1⟩⟩) a1 1 (.int .u64 x.f1.f0) rfl
 exact blk_put (cs' := nodeA x) a2 2 (.int .u64 x.f1.f1) rfl
theorem far3 {W : World} {g k : Nat} {o : Obj} (h : W.heap[k]? = some o) (hn : k ≠ g) (a b c : Value) : (((W.setCell ⟨g, 0, none⟩ a).setCell ⟨g, 1, none⟩ b).setCell ⟨g, 2, none⟩ c).heap[k]? = some o := by
 rw [Below.heap_setCell _ _ _ _ hn, Below.heap_setCell _ _ _ _ hn, Below.heap_setCell _ _ _ _ hn]
 exact h
theorem below3 {W V : World} (h : Below W.heap.size W V) {g : Nat} (hg : W.heap.size ≤ g) (a b c : Value) : Below W.heap.size W (((V.setCell ⟨g, 0, none⟩ a).setCell ⟨g, 1, none⟩ b).setCell ⟨g, 2, none⟩ c) :=
 below_set (below_set (below_set h hg) hg) hg
structure Two (W : World) (b12 b13 : Nat) (x s : SNode) (W' : World) : Prop where
 ne : b12 ≠ b13
 l12 : W.heap.size ≤ b12
 l13 : W.heap.size ≤ b13
 hB : Below W.heap.size W W'
 h12 : W'.heap[b12]? = some (.cells (nodeA x) 46 (0, 0))
 h13 : W'.heap[b13]? = some (.cells (nodeA s) 46 (0, 0))
theorem Two.put {W V : World} {b12 b13 : Nat} {x s : SNode} (h : Two W b12 b13 x s V) (x' s' : SNode) :
  Two W b12 b13 x' s' ((((((V.setCell ⟨b12, 0, none⟩ (.string x'.f0)).setCell ⟨b12, 1, none⟩ (.int .u64 x'.f1.f0)).setCell ⟨b12, 2, none⟩ (.int .u64 x'.f1.f1)).setCell ⟨b13, 0, none⟩ (.string s'.f0)).setCell ⟨b13, 1, none⟩ (.int .u64 s'.f1.f0)).setCell ⟨b13, 2, none⟩ (.int .u64 s'.f1.f1)) :=
 ⟨h.ne, h.l12, h.l13, below3 (below3 h.hB h.l12 _ _ _) h.l13 _ _ _, far3 (put3 h.h12 x') h.ne _ _ _, put3 (far3 h.h13 (Ne.symm h.ne) _ _ _) s'⟩
theorem climb_twoA (W : World) (x s : SNode) : Two W W.heap.size (W.heap.size + 1) x s ((W.alloc (.cells #[.string x.f0, .int .u64 x.f1.f0, .int .u64 x.f1.f1] 46)).alloc (.cells #[.string s.f0, .int .u64 s.f1.f0, .int .u64 s.f1.f1] 46)).drew := by
 have h0 := blk_drew (blk_alloc (blk_new W (.cells (nodeA x) 46)) (.cells (nodeA s) 46))
 have h1 := blk_new (W.alloc (.cells (nodeA x) 46)) (.cells (nodeA s) 46)
 rw [World.size_alloc] at h1
 exact ⟨by omega, by omega, by omega, below_drew (below_alloc (below_alloc (Below.refl _ _) _) _), h0, blk_drew h1⟩
theorem climb_twoB (W : World) (x s : SNode) : Two W (W.heap.size + 1) W.heap.size x s ((W.alloc (.cells #[.string s.f0, .int .u64 s.f1.f0, .int .u64 s.f1.f1] 46)).alloc (.cells #[.string x.f0, .int .u64 x.f1.f0, .int .u64 x.f1.f1] 46)).drew := by
 have h := climb_twoA W s x
 exact ⟨by omega, by omega, by omega, h.hB, h.h13, h.h12⟩
abbrev OkX := { x : SNode × Bool // OkU x.1.f1 }
def climbS (w2 : World) (A : Option Addr) (l : List SNode) (k : Nat) : Prop := k = w2.heap.size + 1 ∨ k = w2.heap.size ∨ (0 < l.length ∧ ∃ a, A = some a ∧ k = a.block)
theorem nodes_block {w : World} {a : Addr} {l : List SNode} (h : Kd.C kNode w (some a) l.length l) (h0 : 0 < l.length) : a.block < w.heap.size := by
 obtain ⟨ad, e, hx, -, -⟩ := at_TNode h 0 (by omega) (by omega)
 cases e
 have := bL' _ _ hx
 unfold Addr.add at this
 split at this <;> exact this
set_option maxRecDepth 100000 in
set_option maxHeartbeats 2000000 in
theorem climb.calls (wd : Int) (n : SNode) (p : Int) (A : Option Addr) (c : Nat) (l : List SNode) (w : World) (hK : Laid w) (hr : Kd.C kNode w A l.length l) (hp : 0 ≤ p) (un : OkU n.f1) (ul : ∀ x ∈ l, OkU x.f1) :
  Calls Tryd.prog 40 #[.int .i64 wd, nodeV n, .int .u64 p, .slice A l.length c] w fun e w' => e = .returned (.tuple #[nodeV (nodeJ (climbI wd n p l)), .int .i64 (climbI wd n p l).2.2.2]) ∧ Below w.heap.size w w' := by
 have HR := aM' hr
 have HK := aM' hK
 have UN := aM' un
 have UL := aM' ul
 clear hr hK un ul
 refine (callsIn_wide (n := 3)).1 ?_
 refine callsIn_of_wp_marks Tryd.func40 rfl trivial ?_ rfl
 simp only [Tryd.ntmps40, List.size_toArray, List.length_cons, List.length_nil, Nat.reduceAdd, Nat.reduceSub, Array.replicate_succ, Array.replicate_zero, List.push_toArray, List.append_toArray, List.nil_append, List.cons_append]
 gi_wp2_with fail
 refine ⟨trivial, ?_⟩
 refine (callsIn_wide.2 (node_Of.calls wd n.f0 n.f1.f0 n.f1.f1 (nodeOf wd n) _ (node_Of_eq wd n))).mono ?_
 rintro e w1 ⟨rfl, hb⟩
 have hB0 : Below w.heap.size w w1 := (below_alloc (below_alloc (below_alloc (below_alloc (Below.refl _ _) _) _) _) _).trans (hb.mono (by simp; omega))
 have hw0 : w1.heap[w.heap.size]? = some (.cells #[.int .i64 wd] 3 (0, 0)) := blk_below (blk_alloc (blk_alloc (blk_alloc (blk_new w _) _) _) _) hb
 have hw1 : w1.heap[w.heap.size + 1]? = some (.cells #[.string n.f0, .int .u64 n.f1.f0, .int .u64 n.f1.f1] 46 (0, 0)) := by
  refine blk_below (blk_alloc (blk_alloc ?_ _) _) hb
  have := blk_new (w.alloc (.cells #[.int .i64 wd] 3)) (.cells #[.string n.f0, .int .u64 n.f1.f0, .int .u64 n.f1.f1] 46)
  rwa [World.size_alloc] at this
 have hw2 : w1.heap[w.heap.size + 1 + 1]? = some (.cells #[.string ⟨#[]⟩, .int .u64 0, .int .u64 0] 46 (0, 0)) := by
  refine blk_below (blk_alloc ?_ _) hb
  have := blk_new ((w.alloc (.cells #[.int .i64 wd] 3)).alloc (.cells #[.string n.f0, .int .u64 n.f1.f0, .int .u64 n.f1.f1] 46)) (.cells #[.string ⟨#[]⟩, .int .u64 0, .int .u64 0] 46)
  rwa [World.size_alloc, World.size_alloc] at this
 have hw3 : w1.heap[w.heap.size + 1 + 1 + 1]? = some (.cells #[.int .i64 0] 26 (0, 0)) := by
  refine blk_below ?_ hb
  have := blk_new (((w.alloc (.cells #[.int .i64 wd] 3)).alloc (.cells #[.string n.f0, .int .u64 n.f1.f0, .int .u64 n.f1.f1] 46)).alloc (.cells #[.string ⟨#[]⟩, .int .u64 0, .int .u64 0] 46)) (.cells #[.int .i64 0] 26)
  rwa [World.size_alloc, World.size_alloc, World.size_alloc] at this
 have hC : Clim w wd n ⟨⟨#[]⟩, ⟨0, 0⟩⟩ 0 w1 := ⟨hw0, hw1, hw2, hw3, hB0⟩
 have HC := aM' hC
 have c0 : w1.cell? ⟨w.heap.size, 0, none⟩ = some (.int .i64 wd) := blk_cell hw0 0
 have cr0 : w1.cell? ⟨w.heap.size + 1 + 1, 0, none⟩ = some (.string ⟨#[]⟩) := blk_cell hw2 0
 have cr1 : w1.cell? ⟨w.heap.size + 1 + 1, 1, none⟩ = some (.int .u64 0) := blk_cell hw2 1
 have cr2 : w1.cell? ⟨w.heap.size + 1 + 1, 2, none⟩ = some (.int .u64 0) := blk_cell hw2 2
 have fr : ∀ i, w1.frozen? ⟨w.heap.size + 1 + 1, i, none⟩ = false := fun i => blk_frozen hw2 i
 have ce : w1.cell? ⟨w.heap.size + 1 + 1 + 1, 0, none⟩ = some (.int .i64 0) := blk_cell hw3 0
 have fe : ∀ i, w1.frozen? ⟨w.heap.size + 1 + 1 + 1, i, none⟩ = false := fun i => blk_frozen hw3 i
 clear hb hB0 hw0 hw1 hw2 hw3 hC
 cases hof : nodeOf wd n with
 | false =>
  have HI := aM' (show climbI wd n p l = (⟨#[]⟩, 0, 0, 70) by unfold climbI; rw [if_neg (by rw [hof]; simp)])
  gi_wp2_with (refine ⟨trivial, ?_⟩)
  rw [HI.out]
  exact climb_ret (HC.out.put ⟨⟨#[]⟩, ⟨0, 0⟩⟩ 70) rfl rfl ⟨rfl, (HC.out.put ⟨⟨#[]⟩, ⟨0, 0⟩⟩ 70).hB⟩
 | true =>
  gi_wp2_with fail
  refine ⟨trivial, ?_⟩
  refine (callsIn_wide.2 (all.calls wd A c l _ (Kd.C_below HR.out HC.out.hB))).mono ?_
  rintro e w2 ⟨rfl, hb⟩
  have h1 : (decide (1 ≤ wd) && (decide (wd ≤ 32) && l.all (nodeOf wd))) = l.all (nodeOf wd) := by
   obtain ⟨h1, h2, _⟩ := nodeOf_w hof
   simp [h1, h2]
  rw [h1]
  have hC2 := HC.out.below hb
  clear HC c0 cr0 cr1 cr2 fr ce fe h1 hb
  have HC := aM' hC2
  have cr0 : w2.cell? ⟨w.heap.size + 1 + 1, 0, none⟩ = some (.string ⟨#[]⟩) := blk_cell hC2.h2 0
  have cr1 : w2.cell? ⟨w.heap.size + 1 + 1, 1, none⟩ = some (.int .u64 0) := blk_cell hC2.h2 1
  have cr2 : w2.cell? ⟨w.heap.size + 1 + 1, 2, none⟩ = some (.int .u64 0) := blk_cell hC2.h2 2
  have fr : ∀ i, w2.frozen? ⟨w.heap.size + 1 + 1, i, none⟩ = false := fun i => blk_frozen hC2.h2 i
  have ce : w2.cell? ⟨w.heap.size + 1 + 1 + 1, 0, none⟩ = some (.int .i64 0) := blk_cell hC2.h3 0
  have fe : ∀ i, w2.frozen? ⟨w.heap.size + 1 + 1 + 1, i, none⟩ = false := fun i => blk_frozen hC2.h3 i
  clear hC2
  cases hal : l.all (nodeOf wd) with
  | false =>
   have HI := aM' (show climbI wd n p l = (⟨#[]⟩, 0, 0, 70) by unfold climbI; rw [if_neg (by rw [hal]; simp)])
   gi_wp2_with (refine ⟨trivial, ?_⟩)
   rw [HI.out]
   exact climb_ret (HC.out.put ⟨⟨#[]⟩, ⟨0, 0⟩⟩ 70) rfl rfl ⟨rfl, (HC.out.put ⟨⟨#[]⟩, ⟨0, 0⟩⟩ 70).hB⟩
  | true =>
   by_cases h63 : 63 < l.length
   ·
    have b1 : decide (63 < (l.length : Int)) = true := decide_eq_true (by omega)
    have HI := aM' (show climbI wd n p l = (⟨#[]⟩, 0, 0, 2) by unfold climbI; rw [if_pos ⟨hof, hal⟩, if_pos h63])
    gi_wp2_with (refine ⟨trivial, ?_⟩)
    rw [HI.out]
    exact climb_ret (HC.out.put ⟨⟨#[]⟩, ⟨0, 0⟩⟩ 2) rfl rfl ⟨rfl, (HC.out.put ⟨⟨#[]⟩, ⟨0, 0⟩⟩ 2).hB⟩
   ·
    have b1 : decide (63 < (l.length : Int)) = false := decide_eq_false (by omega)
    have HI := aM' (show climbI wd n p l = climbL wd n (turnsTo p l l.length) by unfold climbI; rw [if_pos ⟨hof, hal⟩, if_neg h63])
    gi_wp2_with fail
    refine ⟨trivial, ?_⟩
    refine (callsIn_wide.2 (turns.calls p A l.length c w2)).mono ?_
    rintro e w3 ⟨rfl, hw3⟩
    clear cr0 cr1 cr2 fr ce fe b1
    have hP : w3.heap[w2.heap.size]? = some (.cells #[.int .u64 p] 23 (0, 0)) := by rw [hw3]; exact blk_alloc (blk_new w2 _) _
    have hS : w3.heap[w2.heap.size + 1]? = some (.cells #[.slice A l.length c] 43 (0, 0)) := by
     rw [hw3]
     have := blk_new (w2.alloc (.cells #[.int .u64 p] 23)) (.cells #[.slice A l.length c] 43)
     rwa [World.size_alloc] at this
    have hC3 : Clim w wd n ⟨⟨#[]⟩, ⟨0, 0⟩⟩ 0 w3 := by rw [hw3]; exact HC.out.below (below_alloc (below_alloc (Below.refl _ _) _) _)
    have hz3 : w3.heap.size = w2.heap.size + 2 := by rw [hw3]; simp
    have hlt2 := HC.out.lt
    have HP := aM' hP
    have HS := aM' hS
    have HC3 := aM' hC3
    have HZ := aM' hz3
    have HL := aM' hlt2
    have HH := aM' h63
    clear hw3 hP hS hC3 hz3 hlt2 HC h63
    have HLT : ∀ k, climbS w2 A l k → k < w3.heap.size := by
     rintro k (rfl | rfl | ⟨h0, a, rfl, rfl⟩)
     ·
      rw [HZ.out]; omega
     ·
      rw [HZ.out]; omega
     ·
      exact lL' (nodes_block HR.out h0) HC3.out.hB.size
    have HFAR : ∀ k, climbS w2 A l k → k ≠ w.heap.size + 1 := by
     rintro k (rfl | rfl | ⟨h0, a, rfl, rfl⟩)
     ·
      have := HL.out; omega
     ·
      have := HL.out; omega
     ·
      have := nodes_block HR.out h0; omega
    have HLT := aM' HLT
    have HFAR := aM' HFAR
    gi_wp2_with fail
    refine wpIn_rangeFunc_ownH (α := OkX) (n := 3) rfl (by omega) (gf := 108) (lb := #[.pointer (some ⟨w2.heap.size + 1, 0, none⟩), .pointer (some ⟨w2.heap.size, 0, none⟩)]) rfl trivial (enters_of Tryd.func108 (by kernel_rfl) rfl) (encs := fun x => turnV x.1) (Kp := KeepS (climbS w2 A l))
     (S := fun xs => xs.map Subtype.val = turnsTo p l l.length) (Sp := fun pre => ∃ k, k ≤ l.length ∧ pre.map Subtype.val = turnsTo p l k) (N := l.length) (w0 := w3) ?hseq (fun h k => KeepS.trans h k) ?hKb (Below.refl _ _) (fun _ => rfl)
     (fun pre W => ∃ st, upTo wd n (pre.map Subtype.val) = some st ∧ OkU st.f1 ∧ Clim w wd st ⟨⟨#[]⟩, ⟨0, 0⟩⟩ 0 W ∧ w3.heap.size ≤ W.heap.size)
     (fun c pre W => c = .ret ∧ ∃ pre0 x st st', pre.map Subtype.val = pre0 ++ [x] ∧ upTo wd n pre0 = some st ∧ (stepI wd st x).2.2.2 ≠ 0 ∧ Clim w wd st' ⟨⟨#[]⟩, ⟨0, 0⟩⟩ (stepI wd st x).2.2.2 W)
     ?hI ?hIx ⟨n, rfl, UN.out, HC3.out, Nat.le_refl _⟩
     (fun x a' W => ∃ bx, w3.heap.size ≤ bx ∧ W.heap[bx]? = some (.cells (nodeA x.1.1) 46 (0, 0)) ∧ a' = ({ tmps := #[.int .i64 wd, nodeV n, .int .u64 p, .slice A l.length c, .pointer (some ⟨w.heap.size, 0, none⟩), .pointer (some ⟨w.heap.size + 1, 0, none⟩), undef, undef, .pointer (some ⟨w.heap.size + 1 + 1, 0, none⟩), .pointer (some ⟨w.heap.size + 1 + 1 + 1, 0, none⟩), .pointer (some ⟨bx, 0, none⟩), .bool x.1.2, undef, undef, undef, undef, .bool false, .int .i64 wd, .agg #[.string n.f0, .int .u64 n.f1.f0, .int .u64 n.f1.f1], .bool true, .bool false, .bool false, .int .i64 wd, .slice A l.length c, .bool true, .bool false, .bool false, undef, .bool false, .slice A l.length c, .int .i64 (l.length : Int), .bool false, undef, .int .u64 p, .slice A l.length c, .func (.func 108) #[] #[.pointer (some ⟨w2.heap.size + 1, 0, none⟩), .pointer (some ⟨w2.heap.size, 0, none⟩)], nodeV x.1.1, .bool x.1.2, undef, undef, undef, undef, undef, undef, undef, undef, undef, undef, undef, undef, undef, undef, undef, undef, undef, undef], defers := [] } : Act)) ?hAx ?assign ?body ?done ?stop
    case hKb =>
     intro W l2 o o' hl2 ho hc hw k hk
     have := HLT.out k hk
     exact World.putObj_heap_other (by omega)
    case hI =>
     rintro s X Y row ⟨st, h1, h2, h3, h4⟩ hg hr
     exact ⟨st, h1, h2, h3.own hg (by rw [HZ.out]; have := HL.out; omega) (fun r e => (hr r e).1), Nat.le_trans h4 hg.size⟩
    case hIx =>
     rintro c2 s X Y row ⟨rfl, pre0, x, st, st', h1, h2, h3, h4⟩ hg hr
     exact ⟨rfl, pre0, x, st, st', h1, h2, h3, h4.own hg (by rw [HZ.out]; have := HL.out; omega) (fun r e => (hr r e).1)⟩
    case hAx =>
     rintro x a' s X Y row ⟨bx, h1, h2, h3⟩ hg hr
     refine ⟨bx, h1, (hg.block bx (blk_lt h2) (fun e => ?_)).trans h2, h3⟩
     obtain ⟨-, o, ho, hc⟩ := hr bx e.symm
     rw [h2] at ho; cases ho; cases hc
    case hseq =>
     intro l2 J Jx W hW hJ hJx hY h0
     refine (turns1_in Fence.wide 2 trivial rfl (by omega) l2 (w2.heap.size + 1) w2.heap.size W.heap.size p hp A c l (by have := HH.out; omega) (climbS w2 A l) (.inl rfl) (.inr (.inl rfl)) (fun h0 a ha => .inr (.inr ⟨h0, a, ha, rfl⟩)) (fun x => OkU x.f1) UL.out
      (fun pre W => ∃ pre' : List OkX, pre'.map Subtype.val = pre ∧ J pre' W) (fun pre W => ∃ pre' : List OkX, pre'.map Subtype.val = pre ∧ Jx pre' W)
      (fun s X Y row ⟨pre', e, h⟩ hg hr => ⟨pre', e, hJ _ _ _ row h hg hr⟩) ?_ W (blk_below HS.out hW) (blk_below HP.out hW) (Kd.C_below HR.out (HC3.out.hB.trans (hW.mono HC3.out.hB.size))) (fun k hk => lL' (HLT.out k hk) hW.size) ⟨[], rfl, h0⟩).mono ?_
     ·
      rintro pre x W1 hok ⟨pre', rfl, hj⟩ hlen
      obtain ⟨fn, tmps, asg, bd, hy, hR⟩ := hY pre' ⟨x, hok⟩ W1 hj (by simpa using hlen)
      refine ⟨fn, tmps, asg, bd, hy, hR.mono ?_⟩
      rintro e W2 (⟨rfl, h1, h2⟩ | ⟨rfl, h1⟩)
      ·
       exact .inl ⟨rfl, ⟨_, by simp, h1⟩, h2⟩
      ·
       exact .inr ⟨rfl, ⟨_, by simp, h1⟩⟩
     ·
      rintro e W2 ⟨hv, ⟨ys, rfl, ys', e1, h1⟩ | ⟨pre, ⟨k, hk, rfl⟩, pre', e1, h1⟩⟩
      ·
       exact ⟨hv, .inl ⟨ys', e1, h1⟩⟩
      ·
       exact ⟨hv, .inr ⟨pre', ⟨k, hk, e1⟩, h1⟩⟩
    case assign =>
     rintro l2 pre x W K ⟨st, hu, hok, hC, hz⟩ hK
     gi_wp2
     have hg := World.grownBy_alloc W (.cells (nodeA x.1.1) 46) none
     refine hK _ _ (KeepsFrom.of_grownBy hg (fun j e => by cases e)) (fun k hk => hg.block k (lL' (HLT.out k hk) hz) (by simp)) ⟨st, hu, hok, hC.below (below_alloc (Below.refl _ _) _), by simp; omega⟩ ⟨W.heap.size, hz, blk_new W _, rfl⟩
    case body =>
     rintro l2 pre x a' W hl2 - ⟨st, hu, hok, hC, hz⟩ ⟨bx, hbx, hb, rfl⟩ hlen
     obtain ⟨B1, hB1⟩ : ∃ B1, w.heap.size + 1 = B1 := ⟨_, rfl⟩
     have cn0 : W.cell? ⟨B1, 0, none⟩ = some (.string st.f0) := by rw [← hB1]; exact blk_cell hC.h1 0
     have cn1 : W.cell? ⟨B1, 1, none⟩ = some (.int .u64 st.f1.f0) := by rw [← hB1]; exact blk_cell hC.h1 1
     have cn2 : W.cell? ⟨B1, 2, none⟩ = some (.int .u64 st.f1.f1) := by rw [← hB1]; exact blk_cell hC.h1 2
     have cs0 : W.cell? ⟨bx, 0, none⟩ = some (.string x.1.1.f0) := blk_cell hb 0
     have cs1 : W.cell? ⟨bx, 1, none⟩ = some (.int .u64 x.1.1.f1.f0) := blk_cell hb 1
     have cs2 : W.cell? ⟨bx, 2, none⟩ = some (.int .u64 x.1.1.f1.f1) := blk_cell hb 2
     have hlb : bx < W.heap.size := blk_lt hb
     have hlw : B1 < W.heap.size := by rw [← hB1]; exact blk_lt hC.h1
     have q1 : bx ≠ W.heap.size := by omega
     have q2 : bx ≠ W.heap.size + 1 := by omega
     have q3 : B1 ≠ W.heap.size := by omega
     have q4 : B1 ≠ W.heap.size + 1 := by omega
     have HU := aM' hu
     have HOK := aM' hok
     have HC := aM' hC
     have HZZ := aM' hz
     have HBX := aM' hbx
     have HBC := aM' hb
     have HB1 := aM' hB1
     clear hu hok hC hz hbx hb hlen
     rw [hB1]
     clear hB1
     gi_upto_region 8 with (fail)
     refine wpIn_mono (Q := fun e a' W' => e = .normal ∧ ∃ b12 b13, a' = ({ tmps := #[.int .i64 wd, nodeV n, .int .u64 p, .slice A l.length c, .pointer (some ⟨w.heap.size, 0, none⟩), .pointer (some ⟨B1, 0, none⟩), undef, undef, .pointer (some ⟨B1 + 1, 0, none⟩), .pointer (some ⟨B1 + 1 + 1, 0, none⟩), .pointer (some ⟨bx, 0, none⟩), .bool x.1.2, .pointer (some ⟨b12, 0, none⟩), .pointer (some ⟨b13, 0, none⟩), undef, undef, .bool false, .int .i64 wd, .agg #[.string n.f0, .int .u64 n.f1.f0, .int .u64 n.f1.f1], .bool true, .bool false, .bool false, .int .i64 wd, .slice A l.length c, .bool true, .bool false, .bool false, undef, .bool false, .slice A l.length c, .int .i64 (l.length : Int), .bool false, undef, .int .u64 p, .slice A l.length c, .func (.func 108) #[] #[.pointer (some ⟨w2.heap.size + 1, 0, none⟩), .pointer (some ⟨w2.heap.size, 0, none⟩)], nodeV x.1.1, .bool x.1.2, .agg #[.string x.1.1.f0, .int .u64 x.1.1.f1.f0, .int .u64 x.1.1.f1.f1], .agg #[.string st.f0, .int .u64 st.f1.f0, .int .u64 st.f1.f1], undef, undef, undef, undef, undef, undef, undef, undef, undef, undef, undef, undef, undef, undef, undef, undef], defers := [] } : Act) ∧ Two W b12 b13 x.1.1 st W') ?r8 ?k8
     case r8 =>
      clear HU HOK HC HZZ HBX HBC HI HR HK UN UL HP HS HC3 HZ HL HH HLT HFAR
      gi_region_with (fail)
      all_goals
       refine ⟨rfl, _, _, rfl, ?_⟩
       with_reducible first | exact climb_twoA W x.1.1 st | exact climb_twoB W x.1.1 st
     case k8 =>
      clear cn0 cn1 cn2 cs0 cs1 cs2 hlb hlw q1 q2 q3 q4
      rintro e a' W' ⟨rfl, b12, b13, rfl, hT⟩
      obtain ⟨⟨sd, right⟩, hx⟩ := x
      have HT := aM' hT
      have HX := aM' hx
      clear hT
      dsimp only
      cases right with
      | false =>
       have hC5 := HC.out.below HT.out.hB
       have HC5 := aM' hC5
       have g0 : W'.cell? ⟨w.heap.size, 0, none⟩ = some (.int .i64 wd) := blk_cell hC5.h0 0
       have g1 : W'.cell? ⟨b12, 0, none⟩ = some (.string sd.f0) := blk_cell HT.out.h12 0
       have g2 : W'.cell? ⟨b12, 1, none⟩ = some (.int .u64 sd.f1.f0) := blk_cell HT.out.h12 1
       have g3 : W'.cell? ⟨b12, 2, none⟩ = some (.int .u64 sd.f1.f1) := blk_cell HT.out.h12 2
       have g4 : W'.cell? ⟨b13, 0, none⟩ = some (.string st.f0) := blk_cell HT.out.h13 0
       have g5 : W'.cell? ⟨b13, 1, none⟩ = some (.int .u64 st.f1.f0) := blk_cell HT.out.h13 1
       have g6 : W'.cell? ⟨b13, 2, none⟩ = some (.int .u64 st.f1.f1) := blk_cell HT.out.h13 2
       clear hC5
       rcases hj : joinI wd sd st with ⟨r1, r2, r3, r4⟩
       have hs : stepI wd st (sd, false) = (r1, r2, r3, r4) := hj
       have hok2 := joinI_ok wd sd st hx HOK.out
       obtain ⟨kk, hkk⟩ := (join_ev wd sd st hx HOK.out)
       have HJ := aM' (hkk kk (Nat.le_refl _))
       have HS2 := aM' hs
       rw [hj] at HJ hok2
       have HOK2 := aM' hok2
       clear hkk hj hs hok2
       gi_wp2_with fail
       refine ⟨trivial, ?_⟩
       refine (CallsIn.inRound l2 (callsIn_wide.2 (node_Join.calls kk wd sd.f0 sd.f1.f0 sd.f1.f1 st.f0 st.f1.f0 st.f1.f1 r1 r2 r3 r4 _ (HK.out.below HC5.out.hB) HJ.out))).mono ?_
       rintro e w5 ⟨rfl, hb5⟩
       clear g0 g1 g2 g3 g4 g5 g6
       have HB5 := aM' hb5
       have hC6 := HC5.out.below hb5
       have HC6 := aM' hC6
       have hlz := hC6.lt
       have q3 : B1 ≠ w5.heap.size := by have := HB1.out; omega
       have q4 : B1 + 1 ≠ w5.heap.size := by have := HB1.out; omega
       have q5 : B1 + 1 + 1 ≠ w5.heap.size := by have := HB1.out; omega
       have z3 : B1 < w5.heap.size := by have := HB1.out; omega
       have z4 : B1 + 1 < w5.heap.size := by have := HB1.out; omega
       have z5 : B1 + 1 + 1 < w5.heap.size := by have := HB1.out; omega
       have hw3 : B1 + 1 + 1 < w3.heap.size := by have := HB1.out; have := HC3.out.lt; omega
       have HW3 := aM' hw3
       clear hb5 hlz hw3
       by_cases h0 : r4 = 0
       ·
        subst h0
        have cn0 : w5.cell? ⟨B1, 0, none⟩ = some (.string st.f0) := by rw [← HB1.out]; exact blk_cell hC6.h1 0
        have cn1 : w5.cell? ⟨B1, 1, none⟩ = some (.int .u64 st.f1.f0) := by rw [← HB1.out]; exact blk_cell hC6.h1 1
        have cn2 : w5.cell? ⟨B1, 2, none⟩ = some (.int .u64 st.f1.f1) := by rw [← HB1.out]; exact blk_cell hC6.h1 2
        have fn : ∀ i, w5.frozen? ⟨B1, i, none⟩ = false := fun i => by rw [← HB1.out]; exact blk_frozen hC6.h1 i
        clear hC6
        gi_wp2
        have hend := bar_alloc (bar_set (bar_set (bar_set (bar_step (bar_below HT.out.hB B1) HB5.out) (a := ⟨B1, 0, none⟩) (v := .string r1) (.inl rfl)) (a := ⟨B1, 1, none⟩) (v := .int .u64 r2) (.inl rfl)) (a := ⟨B1, 2, none⟩) (v := .int .u64 r3) (.inl rfl)) (.cells #[.string r1, .int .u64 r2, .int .u64 r3] 46)
        change KeepsFrom _ W _ ∧ _ ∧ _
        refine ⟨KeepsFrom.of_grownBy hend (fun j e => by have := Option.some.inj e; have := HW3.out; omega), fun k hk => hend.block k (lL' (HLT.out k hk) HZZ.out) (fun e => HFAR.out k hk (by have := Option.some.inj e; have := HB1.out; omega)), nodeJ (r1, r2, r3, 0), ?_, HOK2.out, ?_, Nat.le_trans HZZ.out hend.size⟩
        ·
         have := upTo_snoc wd (sd, false) _ _ _ HU.out (by rw [HS2.out])
         rw [HS2.out] at this
         rw [List.map_append]
         exact this
        ·
         have := (HC6.out.step (nodeJ (r1, r2, r3, 0))).below (below_alloc (Below.refl _ _) (.cells #[.string r1, .int .u64 r2, .int .u64 r3] 46))
         rw [HB1.out] at this
         exact this
       ·
        have b1 : (r4 != 0) = true := by simp [h0]
        have cr0 : w5.cell? ⟨B1 + 1, 0, none⟩ = some (.string ⟨#[]⟩) := by rw [← HB1.out]; exact blk_cell hC6.h2 0
        have cr1 : w5.cell? ⟨B1 + 1, 1, none⟩ = some (.int .u64 0) := by rw [← HB1.out]; exact blk_cell hC6.h2 1
        have cr2 : w5.cell? ⟨B1 + 1, 2, none⟩ = some (.int .u64 0) := by rw [← HB1.out]; exact blk_cell hC6.h2 2
        have fr : ∀ i, w5.frozen? ⟨B1 + 1, i, none⟩ = false := fun i => by rw [← HB1.out]; exact blk_frozen hC6.h2 i
        have ce : w5.cell? ⟨B1 + 1 + 1, 0, none⟩ = some (.int .i64 0) := by rw [← HB1.out]; exact blk_cell hC6.h3 0
        have fe : ∀ i, w5.frozen? ⟨B1 + 1 + 1, i, none⟩ = false := fun i => by rw [← HB1.out]; exact blk_frozen hC6.h3 i
        clear hC6
        gi_wp2
        have hend := bar_set (bar_set (bar_set (bar_step (bar_below HT.out.hB (B1 + 1)) HB5.out) (a := ⟨B1 + 1, 0, none⟩) (v := .string ⟨#[]⟩) (.inl rfl)) (a := ⟨B1 + 1, 1, none⟩) (v := .int .u64 0) (.inl rfl)) (a := ⟨B1 + 1, 2, none⟩) (v := .int .u64 0) (.inl rfl)
        change KeepsFrom _ W _ ∧ _
        refine ⟨(KeepsFrom.of_grownBy hend (fun j e => by have := Option.some.inj e; have := HW3.out; omega)).trans ((KeepsFrom.of_grownBy (grownBy_setCell' _ (B1 + 1 + 1) (.int .i64 r4)) (fun j e => by have := Option.some.inj e; have := HW3.out; omega)).trans (KeepsFrom.of_grownBy (World.grownBy_alloc _ (.cells #[.string r1, .int .u64 r2, .int .u64 r3] 46) none) (fun j e => by cases e))), rfl, pre.map Subtype.val, (sd, false), st, st, by simp, HU.out, by rw [HS2.out]; exact h0, ?_⟩
        rw [HS2.out]
        have := (HC6.out.put ⟨⟨#[]⟩, ⟨0, 0⟩⟩ r4).below (below_alloc (Below.refl _ _) (.cells #[.string r1, .int .u64 r2, .int .u64 r3] 46))
        rw [HB1.out] at this
        exact this
      | true =>
       have hC5 := HC.out.below HT.out.hB
       have hbx2 : W'.heap[bx]? = some (.cells (nodeA sd) 46 (0, 0)) := blk_below HBC.out HT.out.hB
       have g1 : W'.cell? ⟨b12, 0, none⟩ = some (.string sd.f0) := blk_cell HT.out.h12 0
       have g2 : W'.cell? ⟨b12, 1, none⟩ = some (.int .u64 sd.f1.f0) := blk_cell HT.out.h12 1
       have g3 : W'.cell? ⟨b12, 2, none⟩ = some (.int .u64 sd.f1.f1) := blk_cell HT.out.h12 2
       have g4 : W'.cell? ⟨b13, 0, none⟩ = some (.string st.f0) := blk_cell HT.out.h13 0
       have g5 : W'.cell? ⟨b13, 1, none⟩ = some (.int .u64 st.f1.f0) := blk_cell HT.out.h13 1
       have g6 : W'.cell? ⟨b13, 2, none⟩ = some (.int .u64 st.f1.f1) := blk_cell HT.out.h13 2
       have f12 : ∀ i, W'.frozen? ⟨b12, i, none⟩ = false := fun i => blk_frozen HT.out.h12 i
       have f13 : ∀ i, W'.frozen? ⟨b13, i, none⟩ = false := fun i => blk_frozen HT.out.h13 i
       have n0 : W'.cell? ⟨B1, 0, none⟩ = some (.string st.f0) := by rw [← HB1.out]; exact blk_cell hC5.h1 0
       have n1 : W'.cell? ⟨B1, 1, none⟩ = some (.int .u64 st.f1.f0) := by rw [← HB1.out]; exact blk_cell hC5.h1 1
       have n2 : W'.cell? ⟨B1, 2, none⟩ = some (.int .u64 st.f1.f1) := by rw [← HB1.out]; exact blk_cell hC5.h1 2
       have s0 : W'.cell? ⟨bx, 0, none⟩ = some (.string sd.f0) := blk_cell hbx2 0
       have s1 : W'.cell? ⟨bx, 1, none⟩ = some (.int .u64 sd.f1.f0) := blk_cell hbx2 1
       have s2 : W'.cell? ⟨bx, 2, none⟩ = some (.int .u64 sd.f1.f1) := blk_cell hbx2 2
       have hlb : bx < W.heap.size := blk_lt HBC.out
       have hlw : B1 < W.heap.size := by rw [← HB1.out]; exact blk_lt HC.out.h1
       have u1 : bx ≠ b12 := by have := HT.out.l12; omega
       have u2 : bx ≠ b13 := by have := HT.out.l13; omega
       have u3 : B1 ≠ b12 := by have := HT.out.l12; omega
       have u4 : B1 ≠ b13 := by have := HT.out.l13; omega
       have u5 : b12 ≠ b13 := HT.out.ne
       have u6 : b13 ≠ b12 := Ne.symm HT.out.ne
       clear hC5 hbx2 hlb hlw
       gi_upto_region 10 with (fail)
       refine wpIn_mono (Q := fun e a' V => e = .normal ∧ a' = ({ tmps := #[.int .i64 wd, nodeV n, .int .u64 p, .slice A l.length c, .pointer (some ⟨w.heap.size, 0, none⟩), .pointer (some ⟨B1, 0, none⟩), undef, undef, .pointer (some ⟨B1 + 1, 0, none⟩), .pointer (some ⟨B1 + 1 + 1, 0, none⟩), .pointer (some ⟨bx, 0, none⟩), .bool true, .pointer (some ⟨b12, 0, none⟩), .pointer (some ⟨b13, 0, none⟩), undef, undef, .bool false, .int .i64 wd, .agg #[.string n.f0, .int .u64 n.f1.f0, .int .u64 n.f1.f1], .bool true, .bool false, .bool false, .int .i64 wd, .slice A l.length c, .bool true, .bool false, .bool false, undef, .bool false, .slice A l.length c, .int .i64 (l.length : Int), .bool false, undef, .int .u64 p, .slice A l.length c, .func (.func 108) #[] #[.pointer (some ⟨w2.heap.size + 1, 0, none⟩), .pointer (some ⟨w2.heap.size, 0, none⟩)], nodeV sd, .bool true, .agg #[.string sd.f0, .int .u64 sd.f1.f0, .int .u64 sd.f1.f1], .agg #[.string st.f0, .int .u64 st.f1.f0, .int .u64 st.f1.f1], .bool true, .agg #[.string st.f0, .int .u64 st.f1.f0, .int .u64 st.f1.f1], .agg #[.string sd.f0, .int .u64 sd.f1.f0, .int .u64 sd.f1.f1], undef, undef, undef, undef, undef, undef, undef, undef, undef, undef, undef, undef, undef], defers := [] } : Act) ∧ Two W b12 b13 st sd V) ?r10 ?k10
       case r10 =>
        clear HU HOK HC HZZ HBX HBC HI HR HK UN UL HP HS HC3 HZ HL HH HLT HFAR HB1
        gi_region_with (fail)
        all_goals
         refine ⟨rfl, rfl, ?_⟩
         have h2 := HT.out.put st sd
         with_reducible exact ⟨h2.ne, h2.l12, h2.l13, below_drew h2.hB, blk_drew h2.h12, blk_drew h2.h13⟩
       case k10 =>
       clear g1 g2 g3 g4 g5 g6 f12 f13 n0 n1 n2 s0 s1 s2 u1 u2 u3 u4 u5 u6 HT
       clear W'
       rintro e a' W' ⟨rfl, rfl, hT⟩
       have HT := aM' hT
       clear hT
       dsimp only
       have hC5 := HC.out.below HT.out.hB
       have HC5 := aM' hC5
       have g0 : W'.cell? ⟨w.heap.size, 0, none⟩ = some (.int .i64 wd) := blk_cell hC5.h0 0
       have g1 : W'.cell? ⟨b12, 0, none⟩ = some (.string st.f0) := blk_cell HT.out.h12 0
       have g2 : W'.cell? ⟨b12, 1, none⟩ = some (.int .u64 st.f1.f0) := blk_cell HT.out.h12 1
       have g3 : W'.cell? ⟨b12, 2, none⟩ = some (.int .u64 st.f1.f1) := blk_cell HT.out.h12 2
       have g4 : W'.cell? ⟨b13, 0, none⟩ = some (.string sd.f0) := blk_cell HT.out.h13 0
       have g5 : W'.cell? ⟨b13, 1, none⟩ = some (.int .u64 sd.f1.f0) := blk_cell HT.out.h13 1
       have g6 : W'.cell? ⟨b13, 2, none⟩ = some (.int .u64 sd.f1.f1) := blk_cell HT.out.h13 2
       clear hC5
       rcases hj : joinI wd st sd with ⟨r1, r2, r3, r4⟩
       have hs : stepI wd st (sd, true) = (r1, r2, r3, r4) := hj
       have hok2 := joinI_ok wd st sd HOK.out hx
       obtain ⟨kk, hkk⟩ := (join_ev wd st sd HOK.out hx)
       have HJ := aM' (hkk kk (Nat.le_refl _))
       have HS2 := aM' hs
       rw [hj] at HJ hok2
       have HOK2 := aM' hok2
       clear hkk hj hs hok2
       gi_wp2_with fail
       refine ⟨trivial, ?_⟩
       refine (CallsIn.inRound l2 (callsIn_wide.2 (node_Join.calls kk wd st.f0 st.f1.f0 st.f1.f1 sd.f0 sd.f1.f0 sd.f1.f1 r1 r2 r3 r4 _ (HK.out.below HC5.out.hB) HJ.out))).mono ?_
       rintro e w5 ⟨rfl, hb5⟩
       clear g0 g1 g2 g3 g4 g5 g6
       have HB5 := aM' hb5
       have hC6 := HC5.out.below hb5
       have HC6 := aM' hC6
       have hlz := hC6.lt
       have q3 : B1 ≠ w5.heap.size := by have := HB1.out; omega
       have q4 : B1 + 1 ≠ w5.heap.size := by have := HB1.out; omega
       have q5 : B1 + 1 + 1 ≠ w5.heap.size := by have := HB1.out; omega
       have z3 : B1 < w5.heap.size := by have := HB1.out; omega
       have z4 : B1 + 1 < w5.heap.size := by have := HB1.out; omega
       have z5 : B1 + 1 + 1 < w5.heap.size := by have := HB1.out; omega
       have hw3 : B1 + 1 + 1 < w3.heap.size := by have := HB1.out; have := HC3.out.lt; omega
       have HW3 := aM' hw3
       clear hb5 hlz hw3
       by_cases h0 : r4 = 0
       ·
        subst h0
        have cn0 : w5.cell? ⟨B1, 0, none⟩ = some (.string st.f0) := by rw [← HB1.out]; exact blk_cell hC6.h1 0
        have cn1 : w5.cell? ⟨B1, 1, none⟩ = some (.int .u64 st.f1.f0) := by rw [← HB1.out]; exact blk_cell hC6.h1 1
        have cn2 : w5.cell? ⟨B1, 2, none⟩ = some (.int .u64 st.f1.f1) := by rw [← HB1.out]; exact blk_cell hC6.h1 2
        have fn : ∀ i, w5.frozen? ⟨B1, i, none⟩ = false := fun i => by rw [← HB1.out]; exact blk_frozen hC6.h1 i
        clear hC6
        gi_wp2
        have hend := bar_alloc (bar_set (bar_set (bar_set (bar_step (bar_below HT.out.hB B1) HB5.out) (a := ⟨B1, 0, none⟩) (v := .string r1) (.inl rfl)) (a := ⟨B1, 1, none⟩) (v := .int .u64 r2) (.inl rfl)) (a := ⟨B1, 2, none⟩) (v := .int .u64 r3) (.inl rfl)) (.cells #[.string r1, .int .u64 r2, .int .u64 r3] 46)
        change KeepsFrom _ W _ ∧ _ ∧ _
        refine ⟨KeepsFrom.of_grownBy hend (fun j e => by have := Option.some.inj e; have := HW3.out; omega), fun k hk => hend.block k (lL' (HLT.out k hk) HZZ.out) (fun e => HFAR.out k hk (by have := Option.some.inj e; have := HB1.out; omega)), nodeJ (r1, r2, r3, 0), ?_, HOK2.out, ?_, Nat.le_trans HZZ.out hend.size⟩
        ·
         have := upTo_snoc wd (sd, true) _ _ _ HU.out (by rw [HS2.out])
         rw [HS2.out] at this
         rw [List.map_append]
         exact this
        ·
         have := (HC6.out.step (nodeJ (r1, r2, r3, 0))).below (below_alloc (Below.refl _ _) (.cells #[.string r1, .int .u64 r2, .int .u64 r3] 46))
         rw [HB1.out] at this
         exact this
       ·
        have b1 : (r4 != 0) = true := by simp [h0]
        have cr0 : w5.cell? ⟨B1 + 1, 0, none⟩ = some (.string ⟨#[]⟩) := by rw [← HB1.out]; exact blk_cell hC6.h2 0
        have cr1 : w5.cell? ⟨B1 + 1, 1, none⟩ = some (.int .u64 0) := by rw [← HB1.out]; exact blk_cell hC6.h2 1
        have cr2 : w5.cell? ⟨B1 + 1, 2, none⟩ = some (.int .u64 0) := by rw [← HB1.out]; exact blk_cell hC6.h2 2
        have fr : ∀ i, w5.frozen? ⟨B1 + 1, i, none⟩ = false := fun i => by rw [← HB1.out]; exact blk_frozen hC6.h2 i
        have ce : w5.cell? ⟨B1 + 1 + 1, 0, none⟩ = some (.int .i64 0) := by rw [← HB1.out]; exact blk_cell hC6.h3 0
        have fe : ∀ i, w5.frozen? ⟨B1 + 1 + 1, i, none⟩ = false := fun i => by rw [← HB1.out]; exact blk_frozen hC6.h3 i
        clear hC6
        gi_wp2
        have hend := bar_set (bar_set (bar_set (bar_step (bar_below HT.out.hB (B1 + 1)) HB5.out) (a := ⟨B1 + 1, 0, none⟩) (v := .string ⟨#[]⟩) (.inl rfl)) (a := ⟨B1 + 1, 1, none⟩) (v := .int .u64 0) (.inl rfl)) (a := ⟨B1 + 1, 2, none⟩) (v := .int .u64 0) (.inl rfl)
        change KeepsFrom _ W _ ∧ _
        refine ⟨(KeepsFrom.of_grownBy hend (fun j e => by have := Option.some.inj e; have := HW3.out; omega)).trans ((KeepsFrom.of_grownBy (grownBy_setCell' _ (B1 + 1 + 1) (.int .i64 r4)) (fun j e => by have := Option.some.inj e; have := HW3.out; omega)).trans (KeepsFrom.of_grownBy (World.grownBy_alloc _ (.cells #[.string r1, .int .u64 r2, .int .u64 r3] 46) none) (fun j e => by cases e))), rfl, pre.map Subtype.val, (sd, true), st, st, by simp, HU.out, by rw [HS2.out]; exact h0, ?_⟩
        rw [HS2.out]
        have := (HC6.out.put ⟨⟨#[]⟩, ⟨0, 0⟩⟩ r4).below (below_alloc (Below.refl _ _) (.cells #[.string r1, .int .u64 r2, .int .u64 r3] 46))
        rw [HB1.out] at this
        exact this
    case done =>
     rintro D xs W hD hxs ⟨st, hu, hok, hC, hz⟩ hdf
     have HU := aM' (show climbI wd n p l = (st.f0, st.f1.f0, st.f1.f1, 0) by
      rw [HI.out, ← hxs, show xs.map Subtype.val = xs.map Subtype.val ++ [] by simp, climbL_up wd [] _ _ _ hu]; rfl)
     have cn0 : W.cell? ⟨w.heap.size + 1, 0, none⟩ = some (.string st.f0) := blk_cell hC.h1 0
     have cn1 : W.cell? ⟨w.heap.size + 1, 1, none⟩ = some (.int .u64 st.f1.f0) := blk_cell hC.h1 1
     have cn2 : W.cell? ⟨w.heap.size + 1, 2, none⟩ = some (.int .u64 st.f1.f1) := blk_cell hC.h1 2
     have cr0 : W.cell? ⟨w.heap.size + 1 + 1, 0, none⟩ = some (.string ⟨#[]⟩) := blk_cell hC.h2 0
     have cr1 : W.cell? ⟨w.heap.size + 1 + 1, 1, none⟩ = some (.int .u64 0) := blk_cell hC.h2 1
     have cr2 : W.cell? ⟨w.heap.size + 1 + 1, 2, none⟩ = some (.int .u64 0) := blk_cell hC.h2 2
     have fr : ∀ i, W.frozen? ⟨w.heap.size + 1 + 1, i, none⟩ = false := fun i => blk_frozen hC.h2 i
     have ce : W.cell? ⟨w.heap.size + 1 + 1 + 1, 0, none⟩ = some (.int .i64 0) := blk_cell hC.h3 0
     have fe : ∀ i, W.frozen? ⟨w.heap.size + 1 + 1 + 1, i, none⟩ = false := fun i => blk_frozen hC.h3 i
     have HC := aM' hC
     have HDF := aM' hdf
     have HDD := aM' hD
     clear hu hok hC hz hdf hD hxs
     gi_wp2
     rw [HU.out]
     have hDn : w.heap.size + 1 + 1 + 1 < D := by have := HDD.out; rw [HZ.out] at this; have := HL.out; omega
     exact climb_retD (HC.out.put st 0) hDn (blk_res HDF.out (by omega) (by omega) _ _ _ _) rfl rfl (fun W' hb => ⟨rfl, hb⟩)
    case stop =>
     rintro D c2 pre W hD ⟨k, hk, hp1⟩ ⟨rfl, pre0, x, st, st', h1, h2, h3, h4⟩ hdf
     obtain ⟨rest, hrest⟩ := turnsTo_pre p l k (l.length - k)
     rw [show k + (l.length - k) = l.length by omega, ← hp1, h1, List.append_assoc] at hrest
     have HU := aM' (show climbI wd n p l = (⟨#[]⟩, 0, 0, (stepI wd st x).2.2.2) by
      rw [HI.out, hrest, climbL_up wd _ _ _ _ h2]
      show climbL wd st (x :: rest) = _
      unfold climbL; rw [if_neg h3])
     gi_wp2
     rw [HU.out]
     exact climb_retD h4 (by rw [HZ.out] at hD; have := HL.out; omega) hdf rfl rfl (fun W' hb => ⟨rfl, hb⟩)
def node_Climb.f (x0 : Int) (x1 : ByteArray) (x2 x3 p : Int) (l : List SNode) : Option (ByteArray × Int × Int × Int) :=
 if 0 ≤ p ∧ ((0 ≤ x2 ∧ x2 < 18446744073709551616) ∧ (0 ≤ x3 ∧ x3 < 18446744073709551616)) ∧ ∀ x ∈ l, (0 ≤ x.f1.f0 ∧ x.f1.f0 < 18446744073709551616) ∧ (0 ≤ x.f1.f1 ∧ x.f1.f1 < 18446744073709551616) then some (climbI x0 ⟨x1, ⟨x2, x3⟩⟩ p l) else none
theorem node_Climb.calls (x0 : Int) (x1 : ByteArray) (x2 x3 p : Int) (A : Option Addr) (c : Nat) (l : List SNode) (r1 : ByteArray) (r2 r3 r4 : Int) (w : World) (hK : Laid w) (hr : Kd.C kNode w A l.length l) (hc : l.length ≤ c) (h : node_Climb.f x0 x1 x2 x3 p l = some (r1, r2, r3, r4)) :
  Calls Tryd.prog 40 #[.int .i64 x0, .agg #[.string x1, .int .u64 x2, .int .u64 x3], .int .u64 p, .slice A l.length c] w fun e w' => e = .returned (.tuple #[.agg #[.string r1, .int .u64 r2, .int .u64 r3], .int .i64 r4]) ∧ Below w.heap.size w w' := by
 unfold node_Climb.f at h
 split at h
 ·
  rename_i hh
  have h2 := Option.some.inj h
  refine (climb.calls x0 ⟨x1, ⟨x2, x3⟩⟩ p A c l w hK hr hh.1 ⟨hh.2.1.1, hh.2.1.2⟩ (fun x hx => ⟨(hh.2.2 x hx).1, (hh.2.2 x hx).2⟩)).mono ?_
  rintro e w' ⟨rfl, hb⟩
  rw [h2]
  exact ⟨rfl, hb⟩
 ·
  cases h
end Go.Proofs.YtfcodmdckcihmaaDoor.P
namespace Go.Proofs.YtfcodmdckcihmaaDoor.P
open Go.RowKit Go.Proofs.YtfcodmdckcihmaaDoorW.PrintWords Go.Proofs.YtfcodmdckcihmaaDoorW.PrintLast Go.Proofs.YtfcodmdckcihmaaDoorW.PrintMore
set_option linter.unusedVariables false
set_option linter.unusedSimpArgs false
set_option linter.unnecessarySimpa false
structure OkE (e : SEntry) : Prop where
 id : e.f0.f1.size ≤ 1000000
 sa : e.f0.f2.size ≤ 1000000
 ub : OkU e.f0.f3
 p : 0 ≤ e.f1.f0 ∧ e.f1.f0 < 18446744073709551616
 us : ∀ x ∈ e.f1.f1, OkU x.f1
 ls : e.f1.f1.length ≤ 9223372036854775807
def climbE (w : Int) (e : SEntry) : ByteArray × Int × Int × Int := climbI w (leafNodeI w e.f0) e.f1.f0 e.f1.f1
def upI (w : Int) (e : SEntry) : ByteArray × Int × Int × Int × Int :=
 if mayLeafI e.f0 = true then
  (if shapeN w (e.f1.f1.length : Int) e.f1.f0 e.f1.f1 = 0 then
   (if (climbE w e).2.2.2 = 0 then ((climbE w e).1, (climbE w e).2.1, (climbE w e).2.2.1, (e.f1.f1.length : Int), 0) else (⟨#[]⟩, 0, 0, 0, (climbE w e).2.2.2))
  else (⟨#[]⟩, 0, 0, 0, shapeN w (e.f1.f1.length : Int) e.f1.f0 e.f1.f1))
 else (⟨#[]⟩, 0, 0, 0, 130)
def mayRI (r : SRoot) : Int := if r.f2 < 0 ∨ r.f2 > 63 then 120 else if (r.f0.size : Int) < 1 ∨ (r.f0.size : Int) > 32 then 70 else 0
def checkI (r : SRoot) (e : SEntry) : Int :=
 if mayRI r = 0 then
  (if mayLeafI e.f0 = true then
   (if shapeN (r.f0.size : Int) r.f2 e.f1.f0 e.f1.f1 = 0 then
    (if (climbE (r.f0.size : Int) e).2.2.2 = 0 then
     (if (climbE (r.f0.size : Int) e).1.toList = r.f0.toList ∧ (climbE (r.f0.size : Int) e).2.1 = r.f1.f0 ∧ (climbE (r.f0.size : Int) e).2.2.1 = r.f1.f1 then 0 else 160)
    else (climbE (r.f0.size : Int) e).2.2.2)
   else shapeN (r.f0.size : Int) r.f2 e.f1.f0 e.f1.f1)
  else 130)
 else mayRI r
theorem nodeClimb_eq (w : Int) (e : SEntry) (h : OkE e) : node_Climb.f w (leafNodeI w e.f0).f0 (leafNodeI w e.f0).f1.f0 (leafNodeI w e.f0).f1.f1 e.f1.f0 e.f1.f1 = some (climbE w e) := by
 have u := leafNodeI_ok w e.f0 h.ub
 unfold node_Climb.f climbE
 rw [if_pos ⟨h.p.1, ⟨u.h0, u.h1⟩, fun x hx => ⟨(h.us x hx).h0, (h.us x hx).h1⟩⟩]
theorem verifyMay_ev (r : SRoot) : Ev (fun k => verify_May.f k r.f0 r.f1.f0 r.f1.f1 r.f2) (mayRI r) := by
 have hj : ∀ b : Bool, (b = true ↔ (r.f2 < 0 ∨ r.f2 > 63)) → Ev (fun k => verify_May.j0 k b r.f0 r.f1.f0 r.f1.f1 r.f2) (mayRI r) := by
  intro b hb
  refine Ev.step (f := fun _ => some (mayRI r)) (fun k => ?_) (Ev.now _)
  rw [verify_May.j0]
  unfold mayRI
  by_cases h1 : r.f2 < 0 ∨ r.f2 > 63
  ·
   rw [if_pos (hb.2 h1), if_pos h1]
  ·
   rw [if_neg (fun h => h1 (hb.1 h)), if_neg h1]
   by_cases h2 : (r.f0.size : Int) < 1
   ·
    rw [if_pos h2, if_pos (.inl h2)]
   ·
    rw [if_neg h2]
    by_cases h3 : (r.f0.size : Int) > 32
    ·
     rw [if_pos h3, if_pos (.inr h3)]
    ·
     rw [if_neg h3, if_neg (by omega)]
 unfold verify_May.f
 by_cases h : r.f2 < 0
 ·
  exact Ev.congr (fun k => by rw [if_pos h]) (hj true (by simp [h]))
 ·
  exact Ev.congr (fun k => by rw [if_neg h]) (hj (decide (r.f2 > 63)) (by simp; omega))
end Go.Proofs.YtfcodmdckcihmaaDoor.P
namespace Go.Proofs.YtfcodmdckcihmaaDoor.P
open Go.RowKit Go.Proofs.YtfcodmdckcihmaaDoorW.PrintWords Go.Proofs.YtfcodmdckcihmaaDoorW.PrintLast Go.Proofs.YtfcodmdckcihmaaDoorW.PrintMore
set_option linter.unusedVariables false
set_option linter.unusedSimpArgs false
set_option linter.unnecessarySimpa false
attribute [local go_sem] sel_true
abbrev askA (r : SRoot) (e : SEntry) (A : Option Addr) (c : Nat) : Array Value := #[.string r.f0, .int .u64 r.f1.f0, .int .u64 r.f1.f1, .int .i64 r.f2, .bool e.f0.f0, .string e.f0.f1, .string e.f0.f2, .int .u64 e.f0.f3.f0, .int .u64 e.f0.f3.f1, .int .u64 e.f1.f0, .slice A e.f1.f1.length c]
structure AskS (w w' : World) (r : SRoot) (e : SEntry) (A : Option Addr) (c : Nat) : Prop where
 hB : Below w.heap.size w w'
 h0 : w'.heap[w.heap.size]? = some (.cells (askA r e A c) 146 (0, 0))
theorem AskS.of {w w' : World} {r : SRoot} {e : SEntry} {A : Option Addr} {c : Nat} {C : Prop} (h : C ∧ AskS w w' r e A c) : AskS w w' r e A c := h.2
theorem AskS.below {w w' W : World} {r : SRoot} {e : SEntry} {A : Option Addr} {c : Nat} (h : AskS w w' r e A c) (hb : Below w'.heap.size w' W) : AskS w W r e A c := ⟨h.hB.trans (hb.mono h.hB.size), blk_below h.h0 hb⟩
theorem AskS.drew {w w' : World} {r : SRoot} {e : SEntry} {A : Option Addr} {c : Nat} (h : AskS w w' r e A c) : AskS w w'.drew r e A c := h.below (below_drew (Below.refl _ _))
theorem AskS.cells {w w' : World} {r : SRoot} {e : SEntry} {A : Option Addr} {c : Nat} (h : AskS w w' r e A c) : (w'.cell? ⟨w.heap.size, 0, none⟩ = some (.string r.f0) ∧ w'.cell? ⟨w.heap.size, 1, none⟩ = some (.int .u64 r.f1.f0) ∧ w'.cell? ⟨w.heap.size, 2, none⟩ = some (.int .u64 r.f1.f1) ∧ w'.cell? ⟨w.heap.size, 3, none⟩ = some (.int .i64 r.f2) ∧ w'.cell? ⟨w.heap.size, 4, none⟩ = some (.bool e.f0.f0) ∧ w'.cell? ⟨w.heap.size, 5, none⟩ = some (.string e.f0.f1) ∧ w'.cell? ⟨w.heap.size, 6, none⟩ = some (.string e.f0.f2) ∧ w'.cell? ⟨w.heap.size, 7, none⟩ = some (.int .u64 e.f0.f3.f0) ∧ w'.cell? ⟨w.heap.size, 8, none⟩ = some (.int .u64 e.f0.f3.f1) ∧ w'.cell? ⟨w.heap.size, 9, none⟩ = some (.int .u64 e.f1.f0) ∧ w'.cell? ⟨w.heap.size, 10, none⟩ = some (.slice A e.f1.f1.length c)) ∧ AskS w w' r e A c :=
 ⟨⟨blk_cell h.h0 0, blk_cell h.h0 1, blk_cell h.h0 2, blk_cell h.h0 3, blk_cell h.h0 4, blk_cell h.h0 5, blk_cell h.h0 6, blk_cell h.h0 7, blk_cell h.h0 8, blk_cell h.h0 9, blk_cell h.h0 10⟩, h⟩
theorem AskS.put3 {w W : World} {r : SRoot} {e : SEntry} {A : Option Addr} {c : Nat} (h : AskS w W r e A c) {g : Nat} (hg : w.heap.size < g) (x y z : Value) : AskS w (((W.setCell ⟨g, 0, none⟩ x).setCell ⟨g, 1, none⟩ y).setCell ⟨g, 2, none⟩ z) r e A c :=
 ⟨below_set (below_set (below_set h.hB (by (try dsimp only); omega)) (by (try dsimp only); omega)) (by (try dsimp only); omega), far3 h.h0 (by omega) _ _ _⟩
theorem LaidT.one {w : World} (h : LaidT w) : Laid w := h.1
set_option maxRecDepth 100000 in
set_option maxHeartbeats 2000000 in
theorem askClimb.calls (r : SRoot) (e : SEntry) (A : Option Addr) (c : Nat) (w : World) (hK : LaidT w) (hr : Kd.C kNode w A e.f1.f1.length e.f1.f1) (hc : e.f1.f1.length ≤ c) (he : OkE e) (res : Int) (hres : (if (climbE (r.f0.size : Int) e).2.2.2 = 0 then (if (climbE (r.f0.size : Int) e).1.toList = r.f0.toList ∧ (climbE (r.f0.size : Int) e).2.1 = r.f1.f0 ∧ (climbE (r.f0.size : Int) e).2.2.1 = r.f1.f1 then 0 else 160) else (climbE (r.f0.size : Int) e).2.2.2) = res) :
  Calls Tryd.prog 86 #[.agg (askA r e A c)] w fun x w' => x = .returned (.int .i64 res) ∧ Below w.heap.size w w' := by
 have HK := aM' hK
 have HR := aM' hr
 have HC := aM' hc
 have HE := aM' he
 obtain ⟨kl, hkl⟩ := tagLeafNode_ev (r.f0.size : Int) e.f0 he.id he.sa
 have HL := aM' (hkl kl (Nat.le_refl _))
 have HCl := aM' (nodeClimb_eq (r.f0.size : Int) e he)
 clear hK hr hc he hkl
 generalize hcl : climbE (r.f0.size : Int) e = cl at HCl hres
 obtain ⟨c1, c2, c3, c4⟩ := cl
 clear hcl
 have HRES := aM' hres
 clear hres
 generalize hln : leafNodeI (r.f0.size : Int) e.f0 = ln at HL HCl
 clear hln
 dsimp only at HRES
 go_enter Tryd.func86, Tryd.ntmps86
 go_wp2
 have HS := aM' (show AskS w (w.alloc (.cells (askA r e A c) 146)) r e A c from ⟨below_alloc (Below.refl _ _) _, blk_new w _⟩)
 refine region_inv (fun l a W => ∃ γ : Nat, a = ({ tmps := #[.agg (askA r e A c), .pointer (some ⟨w.heap.size, 0, none⟩), .int .i64 0, sel (l 24) (.pointer (some ⟨γ, 0, none⟩)) (undef), sel (l 26) (.int .i64 c4) (undef), sel (l 21) (.tuple #[.agg #[.string c1, .int .u64 c2, .int .u64 c3], .int .i64 c4]) (undef), sel (l 0) (.pointer (some ⟨w.heap.size, 0, none⟩)) (undef), sel (l 1) (.pointer (some ⟨w.heap.size, 0, none⟩)) (undef), sel (l 2) (.string r.f0) (undef), sel (l 3) (.int .i64 (r.f0.size : Int)) (undef), sel (l 4) (.pointer (some ⟨w.heap.size, 0, none⟩)) (undef), sel (l 5) (.pointer (some ⟨w.heap.size, 0, none⟩)) (undef), sel (l 6) (.string r.f0) (undef), sel (l 7) (.int .i64 (r.f0.size : Int)) (undef), sel (l 8) (.pointer (some ⟨w.heap.size, 4, none⟩)) (undef), sel (l 9) (.pointer (some ⟨w.heap.size, 4, none⟩)) (undef), sel (l 10) (.agg #[.bool e.f0.f0, .string e.f0.f1, .string e.f0.f2, .int .u64 e.f0.f3.f0, .int .u64 e.f0.f3.f1]) (undef), sel (l 11) (.agg #[.string ln.f0, .int .u64 ln.f1.f0, .int .u64 ln.f1.f1]) (undef), sel (l 12) (.pointer (some ⟨w.heap.size, 4, none⟩)) (undef), sel (l 13) (.pointer (some ⟨w.heap.size, 9, none⟩)) (undef), sel (l 14) (.pointer (some ⟨w.heap.size, 9, none⟩)) (undef), sel (l 15) (.int .u64 e.f1.f0) (undef), sel (l 16) (.pointer (some ⟨w.heap.size, 4, none⟩)) (undef), sel (l 17) (.pointer (some ⟨w.heap.size, 9, none⟩)) (undef), sel (l 18) (.pointer (some ⟨w.heap.size, 10, none⟩)) (undef), sel (l 19) (.slice A e.f1.f1.length c) (undef), sel (l 20) (.tuple #[.agg #[.string c1, .int .u64 c2, .int .u64 c3], .int .i64 c4]) (undef), sel (l 22) (.agg #[.string c1, .int .u64 c2, .int .u64 c3]) (undef), sel (l 23) (.int .i64 c4) (undef), undef, undef, undef, undef, undef, undef, undef, undef, undef, undef, undef, undef, undef, undef, undef, undef, undef, undef, undef], defers := [] } : Act) ∧ (AskS w W r e A c ∧ (l 25 = true → l 24 = true) ∧ (l 24 = true → w.heap.size < γ ∧ W.heap[γ]? = some (.cells (if l 25 = true then #[.string c1, .int .u64 c2, .int .u64 c3] else #[.string ⟨#[]⟩, .int .u64 0, .int .u64 0]) 46 (0, 0))))) 27 rfl rfl (by kernel_rfl) ?h0 ?hend ?hstep
 case h0 => exact ⟨0, rfl, HS.out.drew, (fun h => by cases h), fun h => by cases h⟩
 case hstep =>
  refine rg_cons (rg_cons (rg_cons (rg_cons (rg_cons (rg_cons (rg_cons (rg_cons (rg_cons (rg_cons (rg_cons (rg_cons (rg_cons (rg_cons (rg_cons (rg_cons (rg_cons (rg_cons (rg_cons (rg_cons (rg_cons (rg_cons (rg_cons (rg_cons (rg_cons (rg_cons (rg_cons (rg_nil) ?s0) ?s1) ?s2) ?s3) ?s4) ?s5) ?s6) ?s7) ?s8) ?s9) ?s10) ?s11) ?s12) ?s13) ?s14) ?s15) ?s16) ?s17) ?s18) ?s19) ?s20) ?s21) ?s22) ?s23) ?s24) ?s25) ?s26
  case s0 =>
   refine rg_step rfl ?_
   rintro l a W ⟨γ, rfl, hI⟩ hl hd
   clear hd
   refine rg_val (v := .pointer (some ⟨w.heap.size, 0, none⟩)) (w' := W) rfl (by go_simp) ?_
   refine ⟨γ, ?_, ?_⟩
   ·
    simp only [Act.put, List.setIfInBounds_toArray, List.set_cons_zero, List.set_cons_succ]; rfl
   ·
    exact hI
  case s1 =>
   refine rg_step rfl ?_
   rintro l a W ⟨γ, rfl, hI⟩ hl hd
   have d0 := hd 0 (by decide)
   clear hd
   refine rg_val (v := .pointer (some ⟨w.heap.size, 0, none⟩)) (w' := W) rfl (by go_simp) ?_
   refine ⟨γ, ?_, ?_⟩
   ·
    simp only [Act.put, List.setIfInBounds_toArray, List.set_cons_zero, List.set_cons_succ]; rfl
   ·
    exact hI
  case s2 =>
   refine rg_step rfl ?_
   rintro l a W ⟨γ, rfl, hI⟩ hl hd
   have d1 := hd 1 (by decide)
   clear hd
   have x0 := blk_cell hI.1.h0 0
   simp at x0
   refine rg_val (v := .string r.f0) (w' := W) rfl (by go_simp) ?_
   refine ⟨γ, ?_, ?_⟩
   ·
    simp only [Act.put, List.setIfInBounds_toArray, List.set_cons_zero, List.set_cons_succ]; rfl
   ·
    exact hI
  case s3 =>
   refine rg_step rfl ?_
   rintro l a W ⟨γ, rfl, hI⟩ hl hd
   have d2 := hd 2 (by decide)
   clear hd
   refine rg_val (v := .int .i64 (r.f0.size : Int)) (w' := W) rfl (by go_simp) ?_
   refine ⟨γ, ?_, ?_⟩
   ·
    simp only [Act.put, List.setIfInBounds_toArray, List.set_cons_zero, List.set_cons_succ]; rfl
   ·
    exact hI
  case s4 =>
   refine rg_step rfl ?_
   rintro l a W ⟨γ, rfl, hI⟩ hl hd
   clear hd
   refine rg_val (v := .pointer (some ⟨w.heap.size, 0, none⟩)) (w' := W) rfl (by go_simp) ?_
   refine ⟨γ, ?_, ?_⟩
   ·
    simp only [Act.put, List.setIfInBounds_toArray, List.set_cons_zero, List.set_cons_succ]; rfl
   ·
    exact hI
  case s5 =>
   refine rg_step rfl ?_
   rintro l a W ⟨γ, rfl, hI⟩ hl hd
   have d4 := hd 4 (by decide)
   clear hd
   refine rg_val (v := .pointer (some ⟨w.heap.size, 0, none⟩)) (w' := W) rfl (by go_simp) ?_
   refine ⟨γ, ?_, ?_⟩
   ·
    simp only [Act.put, List.setIfInBounds_toArray, List.set_cons_zero, List.set_cons_succ]; rfl
   ·
    exact hI
  case s6 =>
   refine rg_step rfl ?_
   rintro l a W ⟨γ, rfl, hI⟩ hl hd
   have d5 := hd 5 (by decide)
   clear hd
   have x0 := blk_cell hI.1.h0 0
   simp at x0
   refine rg_val (v := .string r.f0) (w' := W) rfl (by go_simp) ?_
   refine ⟨γ, ?_, ?_⟩
   ·
    simp only [Act.put, List.setIfInBounds_toArray, List.set_cons_zero, List.set_cons_succ]; rfl
   ·
    exact hI
  case s7 =>
   refine rg_step rfl ?_
   rintro l a W ⟨γ, rfl, hI⟩ hl hd
   have d6 := hd 6 (by decide)
   clear hd
   refine rg_val (v := .int .i64 (r.f0.size : Int)) (w' := W) rfl (by go_simp) ?_
   refine ⟨γ, ?_, ?_⟩
   ·
    simp only [Act.put, List.setIfInBounds_toArray, List.set_cons_zero, List.set_cons_succ]; rfl
   ·
    exact hI
  case s8 =>
   refine rg_step rfl ?_
   rintro l a W ⟨γ, rfl, hI⟩ hl hd
   clear hd
   refine rg_val (v := .pointer (some ⟨w.heap.size, 4, none⟩)) (w' := W) rfl (by go_simp) ?_
   refine ⟨γ, ?_, ?_⟩
   ·
    simp only [Act.put, List.setIfInBounds_toArray, List.set_cons_zero, List.set_cons_succ]; rfl
   ·
    exact hI
  case s9 =>
   refine rg_step rfl ?_
   rintro l a W ⟨γ, rfl, hI⟩ hl hd
   have d8 := hd 8 (by decide)
   clear hd
   refine rg_val (v := .pointer (some ⟨w.heap.size, 4, none⟩)) (w' := W) rfl (by go_simp) ?_
   refine ⟨γ, ?_, ?_⟩
   ·
    simp only [Act.put, List.setIfInBounds_toArray, List.set_cons_zero, List.set_cons_succ]; rfl
   ·
    exact hI
  case s10 =>
   refine rg_step rfl ?_
   rintro l a W ⟨γ, rfl, hI⟩ hl hd
   have d9 := hd 9 (by decide)
   clear hd
   have x4 := blk_cell hI.1.h0 4
   have x5 := blk_cell hI.1.h0 5
   have x6 := blk_cell hI.1.h0 6
   have x7 := blk_cell hI.1.h0 7
   have x8 := blk_cell hI.1.h0 8
   simp at x4 x5 x6 x7 x8
   refine rg_val (v := .agg #[.bool e.f0.f0, .string e.f0.f1, .string e.f0.f2, .int .u64 e.f0.f3.f0, .int .u64 e.f0.f3.f1]) (w' := W) rfl (by go_simp) ?_
   refine ⟨γ, ?_, ?_⟩
   ·
    simp only [Act.put, List.setIfInBounds_toArray, List.set_cons_zero, List.set_cons_succ]; rfl
   ·
    exact hI
  case s11 =>
   refine rg_step rfl ?_
   rintro l a W ⟨γ, rfl, hI⟩ hl hd
   have d7 := hd 7 (by decide)
   have d10 := hd 10 (by decide)
   clear hd
   refine rg_call rfl (by go_simp; exact ⟨rfl, rfl⟩) ?_
   refine (tag_LeafNode.calls kl _ _ _ _ _ _ _ _ _ _ (HK.out.below hI.1.hB) HL.out).mono ?_
   rintro x W' ⟨rfl, hb⟩
   refine ⟨_, rfl, γ, ?_, ?_⟩
   ·
    simp only [Act.put, List.setIfInBounds_toArray, List.set_cons_zero, List.set_cons_succ]; rfl
   ·
    exact ⟨hI.1.below hb, hI.2.1, fun h => ⟨(hI.2.2 h).1, blk_below (hI.2.2 h).2 hb⟩⟩
  case s12 =>
   refine rg_step rfl ?_
   rintro l a W ⟨γ, rfl, hI⟩ hl hd
   clear hd
   refine rg_val (v := .pointer (some ⟨w.heap.size, 4, none⟩)) (w' := W) rfl (by go_simp) ?_
   refine ⟨γ, ?_, ?_⟩
   ·
    simp only [Act.put, List.setIfInBounds_toArray, List.set_cons_zero, List.set_cons_succ]; rfl
   ·
    exact hI
  case s13 =>
   refine rg_step rfl ?_
   rintro l a W ⟨γ, rfl, hI⟩ hl hd
   have d12 := hd 12 (by decide)
   clear hd
   refine rg_val (v := .pointer (some ⟨w.heap.size, 9, none⟩)) (w' := W) rfl (by go_simp) ?_
   refine ⟨γ, ?_, ?_⟩
   ·
    simp only [Act.put, List.setIfInBounds_toArray, List.set_cons_zero, List.set_cons_succ]; rfl
   ·
    exact hI
  case s14 =>
   refine rg_step rfl ?_
   rintro l a W ⟨γ, rfl, hI⟩ hl hd
   have d13 := hd 13 (by decide)
   clear hd
   refine rg_val (v := .pointer (some ⟨w.heap.size, 9, none⟩)) (w' := W) rfl (by go_simp) ?_
   refine ⟨γ, ?_, ?_⟩
   ·
    simp only [Act.put, List.setIfInBounds_toArray, List.set_cons_zero, List.set_cons_succ]; rfl
   ·
    exact hI
  case s15 =>
   refine rg_step rfl ?_
   rintro l a W ⟨γ, rfl, hI⟩ hl hd
   have d14 := hd 14 (by decide)
   clear hd
   have x9 := blk_cell hI.1.h0 9
   simp at x9
   refine rg_val (v := .int .u64 e.f1.f0) (w' := W) rfl (by go_simp) ?_
   refine ⟨γ, ?_, ?_⟩
   ·
    simp only [Act.put, List.setIfInBounds_toArray, List.set_cons_zero, List.set_cons_succ]; rfl
   ·
    exact hI
  case s16 =>
   refine rg_step rfl ?_
   rintro l a W ⟨γ, rfl, hI⟩ hl hd
   clear hd
   refine rg_val (v := .pointer (some ⟨w.heap.size, 4, none⟩)) (w' := W) rfl (by go_simp) ?_
   refine ⟨γ, ?_, ?_⟩
   ·
    simp only [Act.put, List.setIfInBounds_toArray, List.set_cons_zero, List.set_cons_succ]; rfl
   ·
    exact hI
  case s17 =>
   refine rg_step rfl ?_
   rintro l a W ⟨γ, rfl, hI⟩ hl hd
   have d16 := hd 16 (by decide)
   clear hd
   refine rg_val (v := .pointer (some ⟨w.heap.size, 9, none⟩)) (w' := W) rfl (by go_simp) ?_
   refine ⟨γ, ?_, ?_⟩
   ·
    simp only [Act.put, List.setIfInBounds_toArray, List.set_cons_zero, List.set_cons_succ]; rfl
   ·
    exact hI
  case s18 =>
   refine rg_step rfl ?_
   rintro l a W ⟨γ, rfl, hI⟩ hl hd
   have d17 := hd 17 (by decide)
   clear hd
   refine rg_val (v := .pointer (some ⟨w.heap.size, 10, none⟩)) (w' := W) rfl (by go_simp) ?_
   refine ⟨γ, ?_, ?_⟩
   ·
    simp only [Act.put, List.setIfInBounds_toArray, List.set_cons_zero, List.set_cons_succ]; rfl
   ·
    exact hI
  case s19 =>
   refine rg_step rfl ?_
   rintro l a W ⟨γ, rfl, hI⟩ hl hd
   have d18 := hd 18 (by decide)
   clear hd
   have x10 := blk_cell hI.1.h0 10
   simp at x10
   refine rg_val (v := .slice A e.f1.f1.length c) (w' := W) rfl (by go_simp) ?_
   refine ⟨γ, ?_, ?_⟩
   ·
    simp only [Act.put, List.setIfInBounds_toArray, List.set_cons_zero, List.set_cons_succ]; rfl
   ·
    exact hI
  case s20 =>
   refine rg_step rfl ?_
   rintro l a W ⟨γ, rfl, hI⟩ hl hd
   have d3 := hd 3 (by decide)
   have d11 := hd 11 (by decide)
   have d15 := hd 15 (by decide)
   have d19 := hd 19 (by decide)
   clear hd
   refine rg_call rfl (by go_simp; exact ⟨rfl, rfl⟩) ?_
   refine (node_Climb.calls _ _ _ _ _ A c e.f1.f1 _ _ _ _ _ ((LaidT.one HK.out).below hI.1.hB) (Kd.C_below HR.out hI.1.hB) HC.out HCl.out).mono ?_
   rintro x W' ⟨rfl, hb⟩
   refine ⟨_, rfl, γ, ?_, ?_⟩
   ·
    simp only [Act.put, List.setIfInBounds_toArray, List.set_cons_zero, List.set_cons_succ]; rfl
   ·
    exact ⟨hI.1.below hb, hI.2.1, fun h => ⟨(hI.2.2 h).1, blk_below (hI.2.2 h).2 hb⟩⟩
  case s21 =>
   refine rg_step rfl ?_
   rintro l a W ⟨γ, rfl, hI⟩ hl hd
   have d20 := hd 20 (by decide)
   clear hd
   refine rg_val (v := .tuple #[.agg #[.string c1, .int .u64 c2, .int .u64 c3], .int .i64 c4]) (w' := W) rfl (by go_simp) ?_
   refine ⟨γ, ?_, ?_⟩
   ·
    simp only [Act.put, List.setIfInBounds_toArray, List.set_cons_zero, List.set_cons_succ]; rfl
   ·
    exact hI
  case s22 =>
   refine rg_step rfl ?_
   rintro l a W ⟨γ, rfl, hI⟩ hl hd
   have d21 := hd 21 (by decide)
   clear hd
   refine rg_val (v := .agg #[.string c1, .int .u64 c2, .int .u64 c3]) (w' := W) rfl (by go_simp) ?_
   refine ⟨γ, ?_, ?_⟩
   ·
    simp only [Act.put, List.setIfInBounds_toArray, List.set_cons_zero, List.set_cons_succ]; rfl
   ·
    exact hI
  case s23 =>
   refine rg_step rfl ?_
   rintro l a W ⟨γ, rfl, hI⟩ hl hd
   have d21 := hd 21 (by decide)
   clear hd
   refine rg_val (v := .int .i64 c4) (w' := W) rfl (by go_simp) ?_
   refine ⟨γ, ?_, ?_⟩
   ·
    simp only [Act.put, List.setIfInBounds_toArray, List.set_cons_zero, List.set_cons_succ]; rfl
   ·
    exact hI
  case s24 =>
   refine rg_step rfl ?_
   rintro l a W ⟨γ, rfl, hI⟩ hl hd
   clear hd
   refine rg_val (v := .pointer (some ⟨W.heap.size, 0, none⟩)) (w' := W.alloc (.cells #[.string ⟨#[]⟩, .int .u64 0, .int .u64 0] 46)) rfl (by go_simp) ?_
   refine ⟨W.heap.size, ?_, ?_⟩
   ·
    simp only [Act.put, List.setIfInBounds_toArray, List.set_cons_zero, List.set_cons_succ]; rfl
   ·
    exact ⟨hI.1.below (below_alloc (Below.refl _ _) _), fun _ => rfl, fun _ => ⟨blk_lt hI.1.h0, by rw [if_neg (show ¬ upd l 24 25 = true from fun h => by have h : l 25 = true := h; rw [hI.2.1 h] at hl; cases hl)]; exact blk_new W _⟩⟩
  case s25 =>
   refine rg_step rfl ?_
   rintro l a W ⟨γ, rfl, hI⟩ hl hd
   have d24 := hd 24 (by decide)
   have d22 := hd 22 (by decide)
   clear hd
   have hg := hI.2.2 d24
   rw [if_neg (by rw [hl]; decide)] at hg
   have y0 := blk_cell hg.2 0
   have y1 := blk_cell hg.2 1
   have y2 := blk_cell hg.2 2
   have yf := fun i => blk_frozen hg.2 i
   simp at y0 y1 y2
   refine rg_skip rfl (by go_simp; rfl) ?_
   refine ⟨γ, ?_, ?_⟩
   ·
    simp only [Act.put, List.setIfInBounds_toArray, List.set_cons_zero, List.set_cons_succ]; rfl
   ·
    exact ⟨hI.1.put3 hg.1 _ _ _, fun _ => d24, fun _ => ⟨hg.1, put3 (z := ⟨⟨#[]⟩, ⟨0, 0⟩⟩) hg.2 ⟨c1, ⟨c2, c3⟩⟩⟩⟩
  case s26 =>
   refine rg_step rfl ?_
   rintro l a W ⟨γ, rfl, hI⟩ hl hd
   have d23 := hd 23 (by decide)
   clear hd
   refine rg_val (v := .int .i64 c4) (w' := W) rfl (by go_simp) ?_
   refine ⟨γ, ?_, ?_⟩
   ·
    simp only [Act.put, List.setIfInBounds_toArray, List.set_cons_zero, List.set_cons_succ]; rfl
   ·
    exact hI
 case hend =>
  rintro l a W ⟨γ, rfl, hI⟩ hall
  have e0 := hall 0 (by decide)
  have e1 := hall 1 (by decide)
  have e2 := hall 2 (by decide)
  have e3 := hall 3 (by decide)
  have e4 := hall 4 (by decide)
  have e5 := hall 5 (by decide)
  have e6 := hall 6 (by decide)
  have e7 := hall 7 (by decide)
  have e8 := hall 8 (by decide)
  have e9 := hall 9 (by decide)
  have e10 := hall 10 (by decide)
  have e11 := hall 11 (by decide)
  have e12 := hall 12 (by decide)
  have e13 := hall 13 (by decide)
  have e14 := hall 14 (by decide)
  have e15 := hall 15 (by decide)
  have e16 := hall 16 (by decide)
  have e17 := hall 17 (by decide)
  have e18 := hall 18 (by decide)
  have e19 := hall 19 (by decide)
  have e20 := hall 20 (by decide)
  have e21 := hall 21 (by decide)
  have e22 := hall 22 (by decide)
  have e23 := hall 23 (by decide)
  have e24 := hall 24 (by decide)
  have e25 := hall 25 (by decide)
  have e26 := hall 26 (by decide)
  clear hall
  have hn := hI.2.2 e24
  rw [if_pos e25] at hn
  simp only [e0, e1, e2, e3, e4, e5, e6, e7, e8, e9, e10, e11, e12, e13, e14, e15, e16, e17, e18, e19, e20, e21, e22, e23, e24, e25, e26, sel_true]
  clear e0 e1 e2 e3 e4 e5 e6 e7 e8 e9 e10 e11 e12 e13 e14 e15 e16 e17 e18 e19 e20 e21 e22 e23 e24 e25 e26
  have HN := aM' hn
  have HI := aM' hI.1
  have z0 : W.cell? ⟨γ, 0, none⟩ = some (.string c1) := blk_cell hn.2 0
  have z1 : W.cell? ⟨γ, 1, none⟩ = some (.int .u64 c2) := blk_cell hn.2 1
  have z2 : W.cell? ⟨γ, 2, none⟩ = some (.int .u64 c3) := blk_cell hn.2 2
  have x0 : W.cell? ⟨w.heap.size, 0, none⟩ = some (.string r.f0) := blk_cell hI.1.h0 0
  have x1 : W.cell? ⟨w.heap.size, 1, none⟩ = some (.int .u64 r.f1.f0) := blk_cell hI.1.h0 1
  have x2 : W.cell? ⟨w.heap.size, 2, none⟩ = some (.int .u64 r.f1.f1) := blk_cell hI.1.h0 2
  clear hn hI
  have HRS := HRES
  clear HRES
  by_cases h4 : c4 = 0
  ·
   subst h4
   go_wp2
   all_goals
    go_ret
    exact ⟨congrArg (fun z => Ending.returned (.int .i64 z)) (Eq.trans (by simp [*]) HRS.out), HI.out.hB⟩
  ·
   have b1 : (c4 != 0) = true := by simp [h4]
   go_wp2
   go_ret
   exact ⟨congrArg (fun z => Ending.returned (.int .i64 z)) (Eq.trans (by rw [if_neg h4]) HRS.out), HI.out.hB⟩
end Go.Proofs.YtfcodmdckcihmaaDoor.P
namespace Go.Proofs.YtfcodmdckcihmaaDoor.P
open Go.RowKit Go.Proofs.YtfcodmdckcihmaaDoorW.PrintWords Go.Proofs.YtfcodmdckcihmaaDoorW.PrintLast Go.Proofs.YtfcodmdckcihmaaDoorW.PrintMore
set_option linter.unusedVariables false
set_option linter.unusedSimpArgs false
set_option linter.unnecessarySimpa false
attribute [local go_sem] sel_true
abbrev entU (e : SEntry) (A : Option Addr) (c : Nat) : Array Value := #[.bool e.f0.f0, .string e.f0.f1, .string e.f0.f2, .int .u64 e.f0.f3.f0, .int .u64 e.f0.f3.f1, .int .u64 e.f1.f0, .slice A e.f1.f1.length c]
abbrev rootA (r : SRoot) : Array Value := #[.string r.f0, .int .u64 r.f1.f0, .int .u64 r.f1.f1, .int .i64 r.f2]
structure UpS (w W : World) (e : SEntry) (A : Option Addr) (c : Nat) (r : SRoot) : Prop where
 hB : Below w.heap.size w W
 h0 : W.heap[w.heap.size]? = some (.cells (entU e A c) 70 (0, 0))
 h1 : W.heap[w.heap.size + 1]? = some (.cells (rootA r) 41 (0, 0))
theorem UpS.lt {w W : World} {e : SEntry} {A : Option Addr} {c : Nat} {r : SRoot} (h : UpS w W e A c r) : w.heap.size + 1 < W.heap.size := blk_lt h.h1
theorem UpS.below {w W W' : World} {e : SEntry} {A : Option Addr} {c : Nat} {r : SRoot} (h : UpS w W e A c r) (hb : Below W.heap.size W W') : UpS w W' e A c r := ⟨h.hB.trans (hb.mono h.hB.size), blk_below h.h0 hb, blk_below h.h1 hb⟩
theorem UpS.put3 {w W : World} {e : SEntry} {A : Option Addr} {c : Nat} {r : SRoot} (h : UpS w W e A c r) {g : Nat} (hg : w.heap.size + 1 < g) (x y z : Value) : UpS w (((W.setCell ⟨g, 0, none⟩ x).setCell ⟨g, 1, none⟩ y).setCell ⟨g, 2, none⟩ z) e A c r :=
 ⟨below_set (below_set (below_set h.hB (by (try dsimp only); omega)) (by (try dsimp only); omega)) (by (try dsimp only); omega), far3 h.h0 (by omega) _ _ _, far3 h.h1 (by omega) _ _ _⟩
theorem UpS.put {w W : World} {e : SEntry} {A : Option Addr} {c : Nat} {r : SRoot} (h : UpS w W e A c r) (x : SRoot) :
  UpS w ((((W.setCell ⟨w.heap.size + 1, 0, none⟩ (.string x.f0)).setCell ⟨w.heap.size + 1, 1, none⟩ (.int .u64 x.f1.f0)).setCell ⟨w.heap.size + 1, 2, none⟩ (.int .u64 x.f1.f1)).setCell ⟨w.heap.size + 1, 3, none⟩ (.int .i64 x.f2)) e A c x := by
 have a1 := blk_put (cs' := rootA ⟨x.f0, r.f1, r.f2⟩) h.h1 0 (.string x.f0) rfl
 have a2 := blk_put (cs' := rootA ⟨x.f0, ⟨x.f1.f0, r.f1.f1⟩, r.f2⟩) a1 1 (.int .u64 x.f1.f0) rfl
 have a3 := blk_put (cs' := rootA ⟨x.f0, x.f1, r.f2⟩) a2 2 (.int .u64 x.f1.f1) rfl
 have a4 := blk_put (cs' := rootA x) a3 3 (.int .i64 x.f2) rfl
 exact ⟨below_set (below_set (below_set (below_set h.hB (by (try dsimp only); omega)) (by (try dsimp only); omega)) (by (try dsimp only); omega)) (by (try dsimp only); omega), blk_far (far3 h.h0 (by omega) _ _ _) (by (try dsimp only); omega) _, a4⟩
theorem root_results {fn : Func} {p u : Nat} (hr : fn.results = #[.cell p 41, .tmp u]) (tmps : Array Value) (W : World) (g : Nat) (r : SRoot) (e : Value) (hp : tmps.getD p undef = .pointer (some ⟨g, 0, none⟩)) (hu : tmps.getD u undef = e) (hg : W.heap[g]? = some (.cells (rootA r) 41 (0, 0))) :
  (results fn tmps).run Tryd.prog W = .ok (.tuple #[.agg (rootA r), e]) W := by
 have hp' : tmps[p]?.getD undef = .pointer (some ⟨g, 0, none⟩) := by simpa using hp
 have hu' : tmps[u]?.getD undef = e := by simpa using hu
 have h1 := run_loadVar_row W g 41 41 (rootA r) (0, 0) _ hg Tryd.underlying41 rfl (by kernel_rfl)
 simp [results, hr, hp', hu', asAddr, h1]
abbrev upR (u : ByteArray × Int × Int × Int × Int) : SRoot := ⟨u.1, ⟨u.2.1, u.2.2.1⟩, u.2.2.2.1⟩
theorem askLeaf_eq (e : SEntry) (he : OkE e) (h : ByteArray) (a b c : Int) : verify_asked_leaf.f h a b c e.f0.f0 e.f0.f1 e.f0.f2 e.f0.f3.f0 e.f0.f3.f1 e.f1.f0 e.f1.f1 = some (if mayLeafI e.f0 = true then 0 else 130) := by
 unfold verify_asked_leaf.f
 rw [tagMayLeaf_eq e.f0 he.id]
 cases mayLeafI e.f0 <;> rfl
set_option maxRecDepth 100000 in
set_option maxHeartbeats 4000000 in
theorem verifyUp.calls (wd : Int) (e : SEntry) (A : Option Addr) (c : Nat) (w : World) (hK : LaidT w) (hr : Kd.C kNode w A e.f1.f1.length e.f1.f1) (hc : e.f1.f1.length ≤ c) (he : OkE e) :
  Calls Tryd.prog 82 #[.int .i64 wd, .agg (entU e A c)] w fun x w' => x = .returned (.tuple #[.agg (rootA (upR (upI wd e))), .int .i64 (upI wd e).2.2.2.2]) ∧ Below w.heap.size w w' := by
 have HK := aM' hK
 have HR := aM' hr
 have HC := aM' hc
 obtain ⟨kl, hkl⟩ := tagLeafNode_ev wd e.f0 he.id he.sa
 have HL := aM' (hkl kl (Nat.le_refl _))
 have HCl := aM' (nodeClimb_eq wd e he)
 have HA := aM' (askLeaf_eq e he ⟨#[]⟩ 0 0 0)
 have HSh := aM' (proofShape_eq wd (e.f1.f1.length : Int) e.f1.f0 e.f1.f1)
 have HU := aM' (show upI wd e = if mayLeafI e.f0 = true then (if shapeN wd (e.f1.f1.length : Int) e.f1.f0 e.f1.f1 = 0 then (if (climbE wd e).2.2.2 = 0 then ((climbE wd e).1, (climbE wd e).2.1, (climbE wd e).2.2.1, (e.f1.f1.length : Int), 0) else (⟨#[]⟩, 0, 0, 0, (climbE wd e).2.2.2)) else (⟨#[]⟩, 0, 0, 0, shapeN wd (e.f1.f1.length : Int) e.f1.f0 e.f1.f1)) else (⟨#[]⟩, 0, 0, 0, 130) from rfl)
 have hll : (e.f1.f1.length : Int) ≤ 9223372036854775807 := by have := he.ls; omega
 clear hK hr hc he hkl
 generalize upI wd e = up at HU ⊢
 generalize hcl : climbE wd e = cl at HCl HU
 obtain ⟨c1, c2, c3, c4⟩ := cl
 clear hcl
 generalize hln : leafNodeI wd e.f0 = ln at HL HCl
 clear hln
 generalize hsh : shapeN wd (e.f1.f1.length : Int) e.f1.f0 e.f1.f1 = sh at HSh HU
 clear hsh
 dsimp only at HU
 go_enter Tryd.func82, Tryd.ntmps82
 go_wp2_with fail
 have HUS := aM' (show UpS w ((w.alloc (.cells (entU e A c) 70)).alloc (.cells (rootA ⟨⟨#[]⟩, ⟨0, 0⟩, 0⟩) 41)) e A c ⟨⟨#[]⟩, ⟨0, 0⟩, 0⟩ from
  ⟨below_alloc (below_alloc (Below.refl _ _) _) _, blk_alloc (blk_new w _) _, by have := blk_new (w.alloc (.cells (entU e A c) 70)) (.cells (rootA ⟨⟨#[]⟩, ⟨0, 0⟩, 0⟩) 41); rwa [World.size_alloc] at this⟩)
 have hU2 := HUS.out.below (below_alloc (Below.refl _ _) (.cells #[.string ⟨#[]⟩, .int .u64 0, .int .u64 0, .int .i64 0, .bool e.f0.f0, .string e.f0.f1, .string e.f0.f2, .int .u64 e.f0.f3.f0, .int .u64 e.f0.f3.f1, .int .u64 e.f1.f0, .slice A e.f1.f1.length c] 146))
 refine (verify_asked_leaf.calls ⟨#[]⟩ 0 0 0 e.f0.f0 e.f0.f1 e.f0.f2 e.f0.f3.f0 e.f0.f3.f1 e.f1.f0 A c e.f1.f1 _ _ (HK.out.below hU2.hB) (Kd.C_below HR.out hU2.hB) HC.out HA.out).mono ?_
 rintro x w1 ⟨rfl, hb⟩
 have hU := hU2.below hb
 clear hU2 hb HUS
 have HUS := aM' hU
 have ce6 : w1.cell? ⟨w.heap.size, 6, none⟩ = some (.slice A e.f1.f1.length c) := blk_cell hU.h0 6
 have ce5 : w1.cell? ⟨w.heap.size, 5, none⟩ = some (.int .u64 e.f1.f0) := blk_cell hU.h0 5
 have cr0 : w1.cell? ⟨w.heap.size + 1, 0, none⟩ = some (.string ⟨#[]⟩) := blk_cell hU.h1 0
 have cr1 : w1.cell? ⟨w.heap.size + 1, 1, none⟩ = some (.int .u64 0) := blk_cell hU.h1 1
 have cr2 : w1.cell? ⟨w.heap.size + 1, 2, none⟩ = some (.int .u64 0) := blk_cell hU.h1 2
 have cr3 : w1.cell? ⟨w.heap.size + 1, 3, none⟩ = some (.int .i64 0) := blk_cell hU.h1 3
 have fr : ∀ i, w1.frozen? ⟨w.heap.size + 1, i, none⟩ = false := fun i => blk_frozen hU.h1 i
 clear hU
 cases hm : mayLeafI e.f0 with
 | false =>
  rw [hm] at HU
  rw [if_neg (by decide)]
  have HUU := aM' (HU.out.trans (if_neg (by decide)))
  clear HU hm
  go_wp2
  rw [HUU.out]
  exact bodyPost_ret (root_results rfl _ _ _ ⟨⟨#[]⟩, ⟨0, 0⟩, 0⟩ _ rfl rfl (HUS.out.put ⟨⟨#[]⟩, ⟨0, 0⟩, 0⟩).h1) rfl ⟨rfl, (HUS.out.put ⟨⟨#[]⟩, ⟨0, 0⟩, 0⟩).hB⟩
 | true =>
  rw [hm] at HU
  rw [if_pos rfl]
  have HUU := aM' (HU.out.trans (if_pos rfl))
  clear HU hm
  go_wp2_with fail
  refine (proof_Shape.calls wd (e.f1.f1.length : Int) e.f1.f0 A c e.f1.f1 _ _ (Kd.C_below HR.out HUS.out.hB) HC.out HSh.out).mono ?_
  rintro x w2 ⟨rfl, hb⟩
  have hU := HUS.out.below hb
  clear HUS hb ce6 ce5 cr0 cr1 cr2 cr3 fr
  have HUS := aM' hU
  have cr0 : w2.cell? ⟨w.heap.size + 1, 0, none⟩ = some (.string ⟨#[]⟩) := blk_cell hU.h1 0
  have cr1 : w2.cell? ⟨w.heap.size + 1, 1, none⟩ = some (.int .u64 0) := blk_cell hU.h1 1
  have cr2 : w2.cell? ⟨w.heap.size + 1, 2, none⟩ = some (.int .u64 0) := blk_cell hU.h1 2
  have cr3 : w2.cell? ⟨w.heap.size + 1, 3, none⟩ = some (.int .i64 0) := blk_cell hU.h1 3
  have fr : ∀ i, w2.frozen? ⟨w.heap.size + 1, i, none⟩ = false := fun i => blk_frozen hU.h1 i
  clear hU
  by_cases hs : sh = 0
  ·
   have HU3 := aM' (HUU.out.trans (if_pos hs))
   subst hs
   clear HUU
   go_wp2_with fail
   refine region_inv (fun l a W => ∃ γ : Nat, a = ({ tmps := #[.int .i64 wd, .agg (entU e A c), undef, .pointer (some ⟨w.heap.size, 0, none⟩), .pointer (some ⟨w.heap.size + 1, 0, none⟩), .int .i64 0, .pointer (some ⟨w.heap.size + 1 + 1, 0, none⟩), .int .i64 0, .int .i64 0, sel (l 15) (.pointer (some ⟨γ, 0, none⟩)) (undef), sel (l 17) (.int .i64 c4) (undef), .agg #[.bool e.f0.f0, .string e.f0.f1, .string e.f0.f2, .int .u64 e.f0.f3.f0, .int .u64 e.f0.f3.f1, .int .u64 e.f1.f0, .slice A e.f1.f1.length c], .agg #[.string ⟨#[]⟩, .int .u64 0, .int .u64 0, .int .i64 0, .bool e.f0.f0, .string e.f0.f1, .string e.f0.f2, .int .u64 e.f0.f3.f0, .int .u64 e.f0.f3.f1, .int .u64 e.f1.f0, .slice A e.f1.f1.length c], .agg #[.string ⟨#[]⟩, .int .u64 0, .int .u64 0, .int .i64 0, .bool e.f0.f0, .string e.f0.f1, .string e.f0.f2, .int .u64 e.f0.f3.f0, .int .u64 e.f0.f3.f1, .int .u64 e.f1.f0, .slice A e.f1.f1.length c], .int .i64 0, .int .i64 0, .bool false, undef, undef, .int .i64 wd, .pointer (some ⟨w.heap.size, 5, none⟩), .pointer (some ⟨w.heap.size, 6, none⟩), .slice A e.f1.f1.length c, .int .i64 (e.f1.f1.length : Int), .pointer (some ⟨w.heap.size, 5, none⟩), .agg #[.int .u64 e.f1.f0, .slice A e.f1.f1.length c], .int .i64 0, .int .i64 0, .bool false, undef, undef, sel (l 12) (.tuple #[.agg #[.string c1, .int .u64 c2, .int .u64 c3], .int .i64 c4]) (undef), sel (l 0) (.int .i64 wd) (undef), sel (l 1) (.int .i64 wd) (undef), sel (l 2) (.pointer (some ⟨w.heap.size, 0, none⟩)) (undef), sel (l 3) (.agg #[.bool e.f0.f0, .string e.f0.f1, .string e.f0.f2, .int .u64 e.f0.f3.f0, .int .u64 e.f0.f3.f1]) (undef), sel (l 4) (.agg #[.string ln.f0, .int .u64 ln.f1.f0, .int .u64 ln.f1.f1]) (undef), sel (l 5) (.pointer (some ⟨w.heap.size, 5, none⟩)) (undef), sel (l 6) (.pointer (some ⟨w.heap.size, 5, none⟩)) (undef), sel (l 7) (.int .u64 e.f1.f0) (undef), sel (l 8) (.pointer (some ⟨w.heap.size, 5, none⟩)) (undef), sel (l 9) (.pointer (some ⟨w.heap.size, 6, none⟩)) (undef), sel (l 10) (.slice A e.f1.f1.length c) (undef), sel (l 11) (.tuple #[.agg #[.string c1, .int .u64 c2, .int .u64 c3], .int .i64 c4]) (undef), sel (l 13) (.agg #[.string c1, .int .u64 c2, .int .u64 c3]) (undef), sel (l 14) (.int .i64 c4) (undef), undef, undef, undef, undef, undef, undef, undef, undef, undef, undef, undef, undef, undef], defers := [] } : Act) ∧ (UpS w W e A c ⟨⟨#[]⟩, ⟨0, 0⟩, 0⟩ ∧ (l 16 = true → l 15 = true) ∧ (l 15 = true → w.heap.size + 1 < γ ∧ W.heap[γ]? = some (.cells (if l 16 = true then #[.string c1, .int .u64 c2, .int .u64 c3] else #[.string ⟨#[]⟩, .int .u64 0, .int .u64 0]) 46 (0, 0))))) 18 rfl rfl (by kernel_rfl) ?h0 ?hend ?hstep
   case h0 => exact ⟨0, rfl, HUS.out.below (below_drew (Below.refl _ _)), (fun h => by cases h), fun h => by cases h⟩
   case hstep =>
    refine rg_cons (rg_cons (rg_cons (rg_cons (rg_cons (rg_cons (rg_cons (rg_cons (rg_cons (rg_cons (rg_cons (rg_cons (rg_cons (rg_cons (rg_cons (rg_cons (rg_cons (rg_cons (rg_nil) ?s0) ?s1) ?s2) ?s3) ?s4) ?s5) ?s6) ?s7) ?s8) ?s9) ?s10) ?s11) ?s12) ?s13) ?s14) ?s15) ?s16) ?s17
    case s0 =>
     refine rg_step rfl ?_
     rintro l a W ⟨γ, rfl, hI⟩ hl hd
     clear hd
     refine rg_val (v := .int .i64 wd) (w' := W) rfl (by go_simp) ?_
     refine ⟨γ, ?_, ?_⟩
     ·
      simp only [Act.put, List.setIfInBounds_toArray, List.set_cons_zero, List.set_cons_succ]; rfl
     ·
      exact hI
    case s1 =>
     refine rg_step rfl ?_
     rintro l a W ⟨γ, rfl, hI⟩ hl hd
     clear hd
     refine rg_val (v := .int .i64 wd) (w' := W) rfl (by go_simp) ?_
     refine ⟨γ, ?_, ?_⟩
     ·
      simp only [Act.put, List.setIfInBounds_toArray, List.set_cons_zero, List.set_cons_succ]; rfl
     ·
      exact hI
    case s2 =>
     refine rg_step rfl ?_
     rintro l a W ⟨γ, rfl, hI⟩ hl hd
     clear hd
     refine rg_val (v := .pointer (some ⟨w.heap.size, 0, none⟩)) (w' := W) rfl (by go_simp) ?_
     refine ⟨γ, ?_, ?_⟩
     ·
      simp only [Act.put, List.setIfInBounds_toArray, List.set_cons_zero, List.set_cons_succ]; rfl
     ·
      exact hI
    case s3 =>
     refine rg_step rfl ?_
     rintro l a W ⟨γ, rfl, hI⟩ hl hd
     have d2 := hd 2 (by decide)
     clear hd
     have x0 := blk_cell (hI.1.h0) 0
     have x1 := blk_cell (hI.1.h0) 1
     have x2 := blk_cell (hI.1.h0) 2
     have x3 := blk_cell (hI.1.h0) 3
     have x4 := blk_cell (hI.1.h0) 4
     simp at x0 x1 x2 x3 x4
     refine rg_val (v := .agg #[.bool e.f0.f0, .string e.f0.f1, .string e.f0.f2, .int .u64 e.f0.f3.f0, .int .u64 e.f0.f3.f1]) (w' := W) rfl (by go_simp) ?_
     refine ⟨γ, ?_, ?_⟩
     ·
      simp only [Act.put, List.setIfInBounds_toArray, List.set_cons_zero, List.set_cons_succ]; rfl
     ·
      exact hI
    case s4 =>
     refine rg_step rfl ?_
     rintro l a W ⟨γ, rfl, hI⟩ hl hd
     have d1 := hd 1 (by decide)
     have d3 := hd 3 (by decide)
     clear hd
     refine rg_call rfl (by go_simp; exact ⟨rfl, rfl⟩) ?_
     refine (tag_LeafNode.calls kl _ _ _ _ _ _ _ _ _ _ (HK.out.below hI.1.hB) HL.out).mono ?_
     rintro x W' ⟨rfl, hb⟩
     refine ⟨_, rfl, γ, ?_, ?_⟩
     ·
      simp only [Act.put, List.setIfInBounds_toArray, List.set_cons_zero, List.set_cons_succ]; rfl
     ·
      exact ⟨hI.1.below hb, hI.2.1, fun h => ⟨(hI.2.2 h).1, blk_below (hI.2.2 h).2 hb⟩⟩
    case s5 =>
     refine rg_step rfl ?_
     rintro l a W ⟨γ, rfl, hI⟩ hl hd
     clear hd
     refine rg_val (v := .pointer (some ⟨w.heap.size, 5, none⟩)) (w' := W) rfl (by go_simp) ?_
     refine ⟨γ, ?_, ?_⟩
     ·
      simp only [Act.put, List.setIfInBounds_toArray, List.set_cons_zero, List.set_cons_succ]; rfl
     ·
      exact hI
    case s6 =>
     refine rg_step rfl ?_
     rintro l a W ⟨γ, rfl, hI⟩ hl hd
     have d5 := hd 5 (by decide)
     clear hd
     refine rg_val (v := .pointer (some ⟨w.heap.size, 5, none⟩)) (w' := W) rfl (by go_simp) ?_
     refine ⟨γ, ?_, ?_⟩
     ·
      simp only [Act.put, List.setIfInBounds_toArray, List.set_cons_zero, List.set_cons_succ]; rfl
     ·
      exact hI
    case s7 =>
     refine rg_step rfl ?_
     rintro l a W ⟨γ, rfl, hI⟩ hl hd
     have d6 := hd 6 (by decide)
     clear hd
     have x5 := blk_cell (hI.1.h0) 5
     simp at x5
     refine rg_val (v := .int .u64 e.f1.f0) (w' := W) rfl (by go_simp) ?_
     refine ⟨γ, ?_, ?_⟩
     ·
      simp only [Act.put, List.setIfInBounds_toArray, List.set_cons_zero, List.set_cons_succ]; rfl
     ·
      exact hI
    case s8 =>
     refine rg_step rfl ?_
     rintro l a W ⟨γ, rfl, hI⟩ hl hd
     clear hd
     refine rg_val (v := .pointer (some ⟨w.heap.size, 5, none⟩)) (w' := W) rfl (by go_simp) ?_
     refine ⟨γ, ?_, ?_⟩
     ·
      simp only [Act.put, List.setIfInBounds_toArray, List.set_cons_zero, List.set_cons_succ]; rfl
     ·
      exact hI
    case s9 =>
     refine rg_step rfl ?_
     rintro l a W ⟨γ, rfl, hI⟩ hl hd
     have d8 := hd 8 (by decide)
     clear hd
     refine rg_val (v := .pointer (some ⟨w.heap.size, 6, none⟩)) (w' := W) rfl (by go_simp) ?_
     refine ⟨γ, ?_, ?_⟩
     ·
      simp only [Act.put, List.setIfInBounds_toArray, List.set_cons_zero, List.set_cons_succ]; rfl
     ·
      exact hI
    case s10 =>
     refine rg_step rfl ?_
     rintro l a W ⟨γ, rfl, hI⟩ hl hd
     have d9 := hd 9 (by decide)
     clear hd
     have x6 := blk_cell (hI.1.h0) 6
     simp at x6
     refine rg_val (v := .slice A e.f1.f1.length c) (w' := W) rfl (by go_simp) ?_
     refine ⟨γ, ?_, ?_⟩
     ·
      simp only [Act.put, List.setIfInBounds_toArray, List.set_cons_zero, List.set_cons_succ]; rfl
     ·
      exact hI
    case s11 =>
     refine rg_step rfl ?_
     rintro l a W ⟨γ, rfl, hI⟩ hl hd
     have d0 := hd 0 (by decide)
     have d4 := hd 4 (by decide)
     have d7 := hd 7 (by decide)
     have d10 := hd 10 (by decide)
     clear hd
     refine rg_call rfl (by go_simp; exact ⟨rfl, rfl⟩) ?_
     refine (node_Climb.calls _ _ _ _ _ A c e.f1.f1 _ _ _ _ _ ((LaidT.one HK.out).below hI.1.hB) (Kd.C_below HR.out hI.1.hB) HC.out HCl.out).mono ?_
     rintro x W' ⟨rfl, hb⟩
     refine ⟨_, rfl, γ, ?_, ?_⟩
     ·
      simp only [Act.put, List.setIfInBounds_toArray, List.set_cons_zero, List.set_cons_succ]; rfl
     ·
      exact ⟨hI.1.below hb, hI.2.1, fun h => ⟨(hI.2.2 h).1, blk_below (hI.2.2 h).2 hb⟩⟩
    case s12 =>
     refine rg_step rfl ?_
     rintro l a W ⟨γ, rfl, hI⟩ hl hd
     have d11 := hd 11 (by decide)
     clear hd
     refine rg_val (v := .tuple #[.agg #[.string c1, .int .u64 c2, .int .u64 c3], .int .i64 c4]) (w' := W) rfl (by go_simp) ?_
     refine ⟨γ, ?_, ?_⟩
     ·
      simp only [Act.put, List.setIfInBounds_toArray, List.set_cons_zero, List.set_cons_succ]; rfl
     ·
      exact hI
    case s13 =>
     refine rg_step rfl ?_
     rintro l a W ⟨γ, rfl, hI⟩ hl hd
     have d12 := hd 12 (by decide)
     clear hd
     refine rg_val (v := .agg #[.string c1, .int .u64 c2, .int .u64 c3]) (w' := W) rfl (by go_simp) ?_
     refine ⟨γ, ?_, ?_⟩
     ·
      simp only [Act.put, List.setIfInBounds_toArray, List.set_cons_zero, List.set_cons_succ]; rfl
     ·
      exact hI
    case s14 =>
     refine rg_step rfl ?_
     rintro l a W ⟨γ, rfl, hI⟩ hl hd
     have d12 := hd 12 (by decide)
     clear hd
     refine rg_val (v := .int .i64 c4) (w' := W) rfl (by go_simp) ?_
     refine ⟨γ, ?_, ?_⟩
     ·
      simp only [Act.put, List.setIfInBounds_toArray, List.set_cons_zero, List.set_cons_succ]; rfl
     ·
      exact hI
    case s15 =>
     refine rg_step rfl ?_
     rintro l a W ⟨γ, rfl, hI⟩ hl hd
     clear hd
     refine rg_val (v := .pointer (some ⟨W.heap.size, 0, none⟩)) (w' := W.alloc (.cells #[.string ⟨#[]⟩, .int .u64 0, .int .u64 0] 46)) rfl (by go_simp) ?_
     refine ⟨W.heap.size, ?_, ?_⟩
     ·
      simp only [Act.put, List.setIfInBounds_toArray, List.set_cons_zero, List.set_cons_succ]; rfl
     ·
      exact ⟨hI.1.below (below_alloc (Below.refl _ _) _), fun _ => rfl, fun _ => ⟨hI.1.lt, by rw [if_neg (show ¬ upd l 15 16 = true from fun h => by have h : l 16 = true := h; rw [hI.2.1 h] at hl; cases hl)]; exact blk_new W _⟩⟩
    case s16 =>
     refine rg_step rfl ?_
     rintro l a W ⟨γ, rfl, hI⟩ hl hd
     have d13 := hd 13 (by decide)
     have d15 := hd 15 (by decide)
     clear hd
     have hg := hI.2.2 d15
     rw [if_neg (by rw [hl]; decide)] at hg
     have y0 := blk_cell hg.2 0
     have y1 := blk_cell hg.2 1
     have y2 := blk_cell hg.2 2
     have yf := fun i => blk_frozen hg.2 i
     simp at y0 y1 y2
     refine rg_skip rfl (by go_simp; rfl) ?_
     refine ⟨γ, ?_, ?_⟩
     ·
      simp only [Act.put, List.setIfInBounds_toArray, List.set_cons_zero, List.set_cons_succ]; rfl
     ·
      exact ⟨hI.1.put3 hg.1 _ _ _, fun _ => d15, fun _ => ⟨hg.1, put3 (z := ⟨⟨#[]⟩, ⟨0, 0⟩⟩) hg.2 ⟨c1, ⟨c2, c3⟩⟩⟩⟩
    case s17 =>
     refine rg_step rfl ?_
     rintro l a W ⟨γ, rfl, hI⟩ hl hd
     have d14 := hd 14 (by decide)
     clear hd
     refine rg_val (v := .int .i64 c4) (w' := W) rfl (by go_simp) ?_
     refine ⟨γ, ?_, ?_⟩
     ·
      simp only [Act.put, List.setIfInBounds_toArray, List.set_cons_zero, List.set_cons_succ]; rfl
     ·
      exact hI
   case hend =>
    rintro l a W ⟨γ, rfl, hI⟩ hall
    have e0 := hall 0 (by decide)
    have e1 := hall 1 (by decide)
    have e2 := hall 2 (by decide)
    have e3 := hall 3 (by decide)
    have e4 := hall 4 (by decide)
    have e5 := hall 5 (by decide)
    have e6 := hall 6 (by decide)
    have e7 := hall 7 (by decide)
    have e8 := hall 8 (by decide)
    have e9 := hall 9 (by decide)
    have e10 := hall 10 (by decide)
    have e11 := hall 11 (by decide)
    have e12 := hall 12 (by decide)
    have e13 := hall 13 (by decide)
    have e14 := hall 14 (by decide)
    have e15 := hall 15 (by decide)
    have e16 := hall 16 (by decide)
    have e17 := hall 17 (by decide)
    clear hall
    have hn := hI.2.2 e15
    rw [if_pos e16] at hn
    simp only [e0, e1, e2, e3, e4, e5, e6, e7, e8, e9, e10, e11, e12, e13, e14, e15, e16, e17, sel_true]
    clear e0 e1 e2 e3 e4 e5 e6 e7 e8 e9 e10 e11 e12 e13 e14 e15 e16 e17
    have hU := hI.1
    have HUS2 := aM' hU
    have z0 : W.cell? ⟨γ, 0, none⟩ = some (.string c1) := blk_cell hn.2 0
    have z1 : W.cell? ⟨γ, 1, none⟩ = some (.int .u64 c2) := blk_cell hn.2 1
    have z2 : W.cell? ⟨γ, 2, none⟩ = some (.int .u64 c3) := blk_cell hn.2 2
    have ce6 : W.cell? ⟨w.heap.size, 6, none⟩ = some (.slice A e.f1.f1.length c) := blk_cell hU.h0 6
    have cr0 : W.cell? ⟨w.heap.size + 1, 0, none⟩ = some (.string ⟨#[]⟩) := blk_cell hU.h1 0
    have cr1 : W.cell? ⟨w.heap.size + 1, 1, none⟩ = some (.int .u64 0) := blk_cell hU.h1 1
    have cr2 : W.cell? ⟨w.heap.size + 1, 2, none⟩ = some (.int .u64 0) := blk_cell hU.h1 2
    have cr3 : W.cell? ⟨w.heap.size + 1, 3, none⟩ = some (.int .i64 0) := blk_cell hU.h1 3
    have fr : ∀ i, W.frozen? ⟨w.heap.size + 1, i, none⟩ = false := fun i => blk_frozen hU.h1 i
    clear hn hI hU HUS
    by_cases h4 : c4 = 0
    ·
     have HU4 := aM' (HU3.out.trans (if_pos h4))
     subst h4
     clear HU3
     go_wp2
     rw [HU4.out]
     exact bodyPost_ret (root_results rfl _ _ _ ⟨c1, ⟨c2, c3⟩, (e.f1.f1.length : Int)⟩ _ rfl rfl (HUS2.out.put ⟨c1, ⟨c2, c3⟩, (e.f1.f1.length : Int)⟩).h1) rfl ⟨rfl, (HUS2.out.put ⟨c1, ⟨c2, c3⟩, (e.f1.f1.length : Int)⟩).hB⟩
    ·
     have HU4 := aM' (HU3.out.trans (if_neg h4))
     have b1 : (c4 != 0) = true := by simp [h4]
     clear HU3 h4
     go_wp2
     rw [HU4.out]
     exact bodyPost_ret (root_results rfl _ _ _ ⟨⟨#[]⟩, ⟨0, 0⟩, 0⟩ _ rfl rfl (HUS2.out.put ⟨⟨#[]⟩, ⟨0, 0⟩, 0⟩).h1) rfl ⟨rfl, (HUS2.out.put ⟨⟨#[]⟩, ⟨0, 0⟩, 0⟩).hB⟩
  ·
   have HU3 := aM' (HUU.out.trans (if_neg hs))
   have b1 : (sh != 0) = true := by simp [hs]
   clear HUU hs
   go_wp2
   rw [HU3.out]
   exact bodyPost_ret (root_results rfl _ _ _ ⟨⟨#[]⟩, ⟨0, 0⟩, 0⟩ _ rfl rfl (HUS.out.put ⟨⟨#[]⟩, ⟨0, 0⟩, 0⟩).h1) rfl ⟨rfl, (HUS.out.put ⟨⟨#[]⟩, ⟨0, 0⟩, 0⟩).hB⟩
def verify_Up.f (a0 : Int) (a1_0 : Bool) (a1_1 a1_2 : ByteArray) (a1_3 a1_4 a1_5 : Int) (l : List SNode) : Option (ByteArray × Int × Int × Int × Int) :=
 if (a1_1.size ≤ 1000000 ∧ a1_2.size ≤ 1000000 ∧ l.length ≤ 9223372036854775807) ∧ ((0 ≤ a1_3 ∧ a1_3 < 18446744073709551616) ∧ (0 ≤ a1_4 ∧ a1_4 < 18446744073709551616) ∧ (0 ≤ a1_5 ∧ a1_5 < 18446744073709551616)) ∧ ∀ x ∈ l, (0 ≤ x.f1.f0 ∧ x.f1.f0 < 18446744073709551616) ∧ (0 ≤ x.f1.f1 ∧ x.f1.f1 < 18446744073709551616) then some (upI a0 ⟨⟨a1_0, a1_1, a1_2, ⟨a1_3, a1_4⟩⟩, ⟨a1_5, l⟩⟩) else none
theorem verify_Up.calls (a0 : Int) (a1_0 : Bool) (a1_1 a1_2 : ByteArray) (a1_3 a1_4 a1_5 : Int) (A : Option Addr) (c : Nat) (l : List SNode) (r1 : ByteArray) (r2 r3 r4 r5 : Int) (w : World) (hK : LaidT w) (hr : Kd.C kNode w A l.length l) (hc : l.length ≤ c) (h : verify_Up.f a0 a1_0 a1_1 a1_2 a1_3 a1_4 a1_5 l = some (r1, r2, r3, r4, r5)) :
  Calls Tryd.prog 82 #[.int .i64 a0, .agg #[.bool a1_0, .string a1_1, .string a1_2, .int .u64 a1_3, .int .u64 a1_4, .int .u64 a1_5, .slice A l.length c]] w fun e w' => e = .returned (.tuple #[.agg #[.string r1, .int .u64 r2, .int .u64 r3, .int .i64 r4], .int .i64 r5]) ∧ Below w.heap.size w w' := by
 unfold verify_Up.f at h
 split at h
 ·
  rename_i hh
  have h2 := Option.some.inj h
  refine (verifyUp.calls a0 ⟨⟨a1_0, a1_1, a1_2, ⟨a1_3, a1_4⟩⟩, ⟨a1_5, l⟩⟩ A c w hK hr hc ⟨hh.1.1, hh.1.2.1, ⟨hh.2.1.1, hh.2.1.2.1⟩, hh.2.1.2.2, fun x hx => ⟨(hh.2.2 x hx).1, (hh.2.2 x hx).2⟩, hh.1.2.2⟩).mono ?_
  rintro e w' ⟨rfl, hb⟩
  rw [h2]
  exact ⟨rfl, hb⟩
 ·
  cases h
end Go.Proofs.YtfcodmdckcihmaaDoor.P
namespace Go.Proofs.YtfcodmdckcihmaaDoor.P
open Go.RowKit Go.Proofs.YtfcodmdckcihmaaDoorW.PrintWords Go.Proofs.YtfcodmdckcihmaaDoorW.PrintLast Go.Proofs.YtfcodmdckcihmaaDoorW.PrintMore
set_option linter.unusedVariables false
set_option linter.unusedSimpArgs false
set_option linter.unnecessarySimpa false
theorem askRoot_ev (r : SRoot) (e : SEntry) : Ev (fun k => verify_asked_root.f k r.f0 r.f1.f0 r.f1.f1 r.f2 e.f0.f0 e.f0.f1 e.f0.f2 e.f0.f3.f0 e.f0.f3.f1 e.f1.f0 e.f1.f1) (mayRI r) := by
 unfold verify_asked_root.f
 exact Ev.bind (verifyMay_ev r) (Ev.now _)
theorem askShape_eq (r : SRoot) (e : SEntry) : verify_asked_shape.f r.f0 r.f1.f0 r.f1.f1 r.f2 e.f0.f0 e.f0.f1 e.f0.f2 e.f0.f3.f0 e.f0.f3.f1 e.f1.f0 e.f1.f1 = some (shapeN (r.f0.size : Int) r.f2 e.f1.f0 e.f1.f1) := by
 unfold verify_asked_shape.f
 rw [proofShape_eq]; rfl
set_option maxRecDepth 100000 in
set_option maxHeartbeats 4000000 in
theorem check.calls (r : SRoot) (e : SEntry) (A : Option Addr) (c : Nat) (w : World) (hK : LaidT w) (hr : Kd.C kNode w A e.f1.f1.length e.f1.f1) (hc : e.f1.f1.length ≤ c) (he : OkE e) :
  Calls Tryd.prog 44 #[.agg (rootA r), .agg (entU e A c)] w fun x w' => x = .returned (.int .i64 (checkI r e)) ∧ Below w.heap.size w w' := by
 have HK := aM' hK
 have HR := aM' hr
 have HC := aM' hc
 have HE := aM' he
 obtain ⟨kr, hkr⟩ := askRoot_ev r e
 have HRo := aM' (hkr kr (Nat.le_refl _))
 have HLe := aM' (askLeaf_eq e he r.f0 r.f1.f0 r.f1.f1 r.f2)
 have HSh := aM' (askShape_eq r e)
 obtain ⟨res, hres⟩ : ∃ res, (if (climbE (r.f0.size : Int) e).2.2.2 = 0 then (if (climbE (r.f0.size : Int) e).1.toList = r.f0.toList ∧ (climbE (r.f0.size : Int) e).2.1 = r.f1.f0 ∧ (climbE (r.f0.size : Int) e).2.2.1 = r.f1.f1 then 0 else 160) else (climbE (r.f0.size : Int) e).2.2.2) = res := ⟨_, rfl⟩
 have HCk := aM' (show checkI r e = if mayRI r = 0 then (if mayLeafI e.f0 = true then (if shapeN (r.f0.size : Int) r.f2 e.f1.f0 e.f1.f1 = 0 then res else shapeN (r.f0.size : Int) r.f2 e.f1.f0 e.f1.f1) else 130) else mayRI r by rw [← hres]; rfl)
 have HRes := aM' hres
 clear hK hr hc he hkr hres
 generalize checkI r e = ck at HCk ⊢
 generalize mayRI r = mr at HRo HCk
 generalize shapeN (r.f0.size : Int) r.f2 e.f1.f0 e.f1.f1 = sh at HSh HCk
 have i0 : ∀ (f0 f1 f2 f3 : Value) (w : World), (Instr.index 148 (.agg #[f0, f1, f2, f3]) (.int .i64 0)).run Tryd.prog w = .ok f0 w := fun _ _ _ _ _ => by kernel_rfl
 have i1 : ∀ (f0 f1 f2 f3 : Value) (w : World), (Instr.index 148 (.agg #[f0, f1, f2, f3]) (.int .i64 1)).run Tryd.prog w = .ok f1 w := fun _ _ _ _ _ => by kernel_rfl
 have i2 : ∀ (f0 f1 f2 f3 : Value) (w : World), (Instr.index 148 (.agg #[f0, f1, f2, f3]) (.int .i64 2)).run Tryd.prog w = .ok f2 w := fun _ _ _ _ _ => by kernel_rfl
 have i3 : ∀ (f0 f1 f2 f3 : Value) (w : World), (Instr.index 148 (.agg #[f0, f1, f2, f3]) (.int .i64 3)).run Tryd.prog w = .ok f3 w := fun _ _ _ _ _ => by kernel_rfl
 go_enter Tryd.func44, Tryd.ntmps44
 go_wp2
 refine wp_loop_rounds 5 ?_
 rw [rounds_succ]
 by_cases h0 : mr = 0
 ·
  have m0 : (mr != 0) = false := by simp [h0]
  go_wp2_with (go_at_call 83; refine (verify_asked_root.calls kr r.f0 r.f1.f0 r.f1.f1 r.f2 e.f0.f0 e.f0.f1 e.f0.f2 e.f0.f3.f0 e.f0.f3.f1 e.f1.f0 A c e.f1.f1 mr _ (Kd.C_below HR.out (by repeat (first | exact Below.refl _ _ | apply below_alloc))) HC.out HRo.out).mono ?_; rintro x w1 ⟨rfl, hb1⟩)
  have HB1 : Aside0 (Below w.heap.size w w1) := ⟨Below.trans (by repeat (first | exact Below.refl _ _ | apply below_alloc)) (hb1.mono (Below.size (by repeat (first | exact Below.refl _ _ | apply below_alloc))))⟩
  clear hb1
  go_wp2
  rw [rounds_succ]
  by_cases h1 : mayLeafI e.f0 = true
  ·
   have m1 : ((if mayLeafI e.f0 = true then (0 : Int) else 130) != 0) = false := by rw [if_pos h1]; rfl
   go_wp2_with (go_at_call 84; refine (verify_asked_leaf.calls r.f0 r.f1.f0 r.f1.f1 r.f2 e.f0.f0 e.f0.f1 e.f0.f2 e.f0.f3.f0 e.f0.f3.f1 e.f1.f0 A c e.f1.f1 _ _ (HK.out.below HB1.out) (Kd.C_below HR.out HB1.out) HC.out HLe.out).mono ?_; rintro x w2 ⟨rfl, hb2⟩)
   have HB2 : Aside0 (Below w.heap.size w w2) := ⟨HB1.out.trans (hb2.mono HB1.out.size)⟩
   clear hb2
   go_wp2
   rw [rounds_succ]
   by_cases h2 : sh = 0
   ·
    have m2 : (sh != 0) = false := by simp [h2]
    go_wp2_with (go_at_call 85; refine (verify_asked_shape.calls r.f0 r.f1.f0 r.f1.f1 r.f2 e.f0.f0 e.f0.f1 e.f0.f2 e.f0.f3.f0 e.f0.f3.f1 e.f1.f0 A c e.f1.f1 _ _ (Kd.C_below HR.out HB2.out) HC.out HSh.out).mono ?_; rintro x w3 ⟨rfl, hb3⟩)
    have HB3 : Aside0 (Below w.heap.size w w3) := ⟨HB2.out.trans (hb3.mono HB2.out.size)⟩
    clear hb3
    go_wp2
    rw [rounds_succ]
    by_cases h3 : res = 0
    ·
     have m3 : (res != 0) = false := by simp [h3]
     go_wp2_with (go_at_call 86; refine (askClimb.calls r e A c _ (HK.out.below HB3.out) (Kd.C_below HR.out HB3.out) HC.out HE.out res HRes.out).mono ?_; rintro x w4 ⟨rfl, hb4⟩)
     have HB4 : Aside0 (Below w.heap.size w w4) := ⟨HB3.out.trans (hb4.mono HB3.out.size)⟩
     clear hb4
     go_wp2
     rw [rounds_succ]
     go_wp2
     go_ret
     exact ⟨by rw [HCk.out, if_pos h0, if_pos h1, if_pos h2, h3]; rfl, HB4.out⟩
    ·
     have m3 : (res != 0) = true := by simp [h3]
     go_wp2_with (go_at_call 86; refine (askClimb.calls r e A c _ (HK.out.below HB3.out) (Kd.C_below HR.out HB3.out) HC.out HE.out res HRes.out).mono ?_; rintro x w4 ⟨rfl, hb4⟩)
     have HB4 : Aside0 (Below w.heap.size w w4) := ⟨HB3.out.trans (hb4.mono HB3.out.size)⟩
     clear hb4
     go_wp2
     go_ret
     exact ⟨by rw [HCk.out, if_pos h0, if_pos h1, if_pos h2]; rfl, HB4.out⟩
   ·
    have m2 : (sh != 0) = true := by simp [h2]
    go_wp2_with (go_at_call 85; refine (verify_asked_shape.calls r.f0 r.f1.f0 r.f1.f1 r.f2 e.f0.f0 e.f0.f1 e.f0.f2 e.f0.f3.f0 e.f0.f3.f1 e.f1.f0 A c e.f1.f1 _ _ (Kd.C_below HR.out HB2.out) HC.out HSh.out).mono ?_; rintro x w3 ⟨rfl, hb3⟩)
    have HB3 : Aside0 (Below w.heap.size w w3) := ⟨HB2.out.trans (hb3.mono HB2.out.size)⟩
    clear hb3
    go_wp2
    go_ret
    exact ⟨by rw [HCk.out, if_pos h0, if_pos h1, if_neg h2]; rfl, HB3.out⟩
  ·
   have m1 : ((if mayLeafI e.f0 = true then (0 : Int) else 130) != 0) = true := by rw [if_neg h1]; rfl
   go_wp2_with (go_at_call 84; refine (verify_asked_leaf.calls r.f0 r.f1.f0 r.f1.f1 r.f2 e.f0.f0 e.f0.f1 e.f0.f2 e.f0.f3.f0 e.f0.f3.f1 e.f1.f0 A c e.f1.f1 _ _ (HK.out.below HB1.out) (Kd.C_below HR.out HB1.out) HC.out HLe.out).mono ?_; rintro x w2 ⟨rfl, hb2⟩)
   have HB2 : Aside0 (Below w.heap.size w w2) := ⟨HB1.out.trans (hb2.mono HB1.out.size)⟩
   clear hb2
   go_wp2
   go_ret
   exact ⟨by rw [HCk.out, if_pos h0, if_neg h1]; rfl, HB2.out⟩
 ·
  have m0 : (mr != 0) = true := by simp [h0]
  go_wp2_with (go_at_call 83; refine (verify_asked_root.calls kr r.f0 r.f1.f0 r.f1.f1 r.f2 e.f0.f0 e.f0.f1 e.f0.f2 e.f0.f3.f0 e.f0.f3.f1 e.f1.f0 A c e.f1.f1 mr _ (Kd.C_below HR.out (by repeat (first | exact Below.refl _ _ | apply below_alloc))) HC.out HRo.out).mono ?_; rintro x w1 ⟨rfl, hb1⟩)
  have HB1 : Aside0 (Below w.heap.size w w1) := ⟨Below.trans (by repeat (first | exact Below.refl _ _ | apply below_alloc)) (hb1.mono (Below.size (by repeat (first | exact Below.refl _ _ | apply below_alloc))))⟩
  clear hb1
  go_wp2
  go_ret
  exact ⟨by rw [HCk.out, if_neg h0]; rfl, HB1.out⟩
def verify_Check.f (a0_0 : ByteArray) (a0_1 a0_2 a0_3 : Int) (a1_0 : Bool) (a1_1 a1_2 : ByteArray) (a1_3 a1_4 a1_5 : Int) (l : List SNode) : Option Int :=
 if (a1_1.size ≤ 1000000 ∧ a1_2.size ≤ 1000000 ∧ l.length ≤ 9223372036854775807) ∧ ((0 ≤ a1_3 ∧ a1_3 < 18446744073709551616) ∧ (0 ≤ a1_4 ∧ a1_4 < 18446744073709551616) ∧ (0 ≤ a1_5 ∧ a1_5 < 18446744073709551616)) ∧ ∀ x ∈ l, (0 ≤ x.f1.f0 ∧ x.f1.f0 < 18446744073709551616) ∧ (0 ≤ x.f1.f1 ∧ x.f1.f1 < 18446744073709551616) then some (checkI ⟨a0_0, ⟨a0_1, a0_2⟩, a0_3⟩ ⟨⟨a1_0, a1_1, a1_2, ⟨a1_3, a1_4⟩⟩, ⟨a1_5, l⟩⟩) else none
theorem verify_Check.calls (a0_0 : ByteArray) (a0_1 a0_2 a0_3 : Int) (a1_0 : Bool) (a1_1 a1_2 : ByteArray) (a1_3 a1_4 a1_5 : Int) (A : Option Addr) (c : Nat) (l : List SNode) (r : Int) (w : World) (hK : LaidT w) (hr : Kd.C kNode w A l.length l) (hc : l.length ≤ c) (h : verify_Check.f a0_0 a0_1 a0_2 a0_3 a1_0 a1_1 a1_2 a1_3 a1_4 a1_5 l = some r) :
  Calls Tryd.prog 44 #[.agg #[.string a0_0, .int .u64 a0_1, .int .u64 a0_2, .int .i64 a0_3], .agg #[.bool a1_0, .string a1_1, .string a1_2, .int .u64 a1_3, .int .u64 a1_4, .int .u64 a1_5, .slice A l.length c]] w fun e w' => e = .returned (.int .i64 r) ∧ Below w.heap.size w w' := by
 unfold verify_Check.f at h
 split at h
 ·
  rename_i hh
  obtain rfl := Option.some.inj h
  exact check.calls ⟨a0_0, ⟨a0_1, a0_2⟩, a0_3⟩ ⟨⟨a1_0, a1_1, a1_2, ⟨a1_3, a1_4⟩⟩, ⟨a1_5, l⟩⟩ A c w hK hr hc ⟨hh.1.1, hh.1.2.1, ⟨hh.2.1.1, hh.2.1.2.1⟩, hh.2.1.2.2, fun x hx => ⟨(hh.2.2 x hx).1, (hh.2.2 x hx).2⟩, hh.1.2.2⟩
 ·
  exact absurd h (by simp)
theorem verifyCheck_eq (r : SRoot) (e : SEntry) (h : OkE e) : verify_Check.f r.f0 r.f1.f0 r.f1.f1 r.f2 e.f0.f0 e.f0.f1 e.f0.f2 e.f0.f3.f0 e.f0.f3.f1 e.f1.f0 e.f1.f1 = some (checkI r e) := by
 unfold verify_Check.f
 rw [if_pos ⟨⟨h.id, h.sa, h.ls⟩, ⟨h.ub.h0, h.ub.h1, h.p⟩, fun x hx => ⟨(h.us x hx).h0, (h.us x hx).h1⟩⟩]
end Go.Proofs.YtfcodmdckcihmaaDoor.P
namespace Go.Proofs.YtfcodmdckcihmaaDoor.P
open Go.RowKit Go.Proofs.YtfcodmdckcihmaaDoorW.PrintWords Go.Proofs.YtfcodmdckcihmaaDoorW.PrintLast Go.Proofs.YtfcodmdckcihmaaDoorW.PrintMore
attribute [local go_sem] max2_int min2_int max_two min_two max_three min_three max_four min_four-- for this text's walks alone
set_option linter.unusedVariables false
set_option linter.unusedSimpArgs false
def verify_All.l0 : Nat → List (SEntry) → List (SEntry) → Int → Int → ByteArray → Int → Int → Int → Option (Int × Int)
 | 0, _, _, _, _, _, _, _, _ => none
 | k + 1, x1, x9, x10, x11, x102000, x102001, x102002, x102003 => if x11 < x10 then (if 0 ≤ x11 then (if x11 < (x9.length : Int) then ((verify_Check.f x102000 x102001 x102002 x102003 ((rd_TEntry x9 x11).f0.f0) ((rd_TEntry x9 x11).f0.f1) ((rd_TEntry x9 x11).f0.f2) ((rd_TEntry x9 x11).f0.f3.f0) ((rd_TEntry x9 x11).f0.f3.f1) ((rd_TEntry x9 x11).f1.f0) ((rd_TEntry x9 x11).f1.f1)).bind fun t104 => (if t104 = 0 then (verify_All.l0 k x1 x9 x10 (wrap64 (x11 + 1)) x102000 x102001 x102002 x102003) else (some (x11, t104)))) else (none)) else (none)) else (some ((x1.length : Int), 0))
def verify_All.f (k : Nat) (a0_0 : ByteArray) (a0_1 : Int) (a0_2 : Int) (a0_3 : Int) (l1 : List (SEntry)) : Option (Int × Int) := verify_All.l0 k l1 l1 (l1.length : Int) 0 a0_0 a0_1 a0_2 a0_3
set_option maxHeartbeats 8000000 in
set_option maxRecDepth 100000 in
theorem verify_All.calls (k : Nat) (a0_0 : ByteArray) (a0_1 : Int) (a0_2 : Int) (a0_3 : Int) (A1 : Option Addr) (c1 : Nat) (l1 : List (SEntry)) (r1 : Int) (r2 : Int) (w : World) (hK : LaidT w) (hr1 : Kd.C kEntry w A1 l1.length l1) (hc1 : l1.length ≤ c1) (h : verify_All.f k a0_0 a0_1 a0_2 a0_3 l1 = some (r1, r2)) :
  Calls Tryd.prog 43 #[.agg #[.string a0_0, .int .u64 a0_1, .int .u64 a0_2, .int .i64 a0_3], .slice A1 l1.length c1] w fun e w' => e = .returned (.tuple #[.int .i64 r1, .int .i64 r2]) ∧ Below w.heap.size w w' := by
 have hu41 := Tryd.underlying41
 have hu70 := Tryd.underlying70
 have HR1 := aM' hr1
 have HC1 := aM' hc1
 clear hr1 hc1
 have HB := aM' (Below.refl w.heap.size w)
 have HLD := aM' hK
 clear hK
 have H : (verify_All.l0 k l1 l1 (l1.length : Int) 0 a0_0 a0_1 a0_2 a0_3) = some (r1, r2) := h
 clear h
 have H' := aM' H
 clear H
 go_enter Tryd.func43, Tryd.ntmps43
 go_wp2_with (first | ((with_reducible refine gate_dst (N := 2) rfl ?_); refine box_event ?hg (N := 2) ?hd (cs := #[.string a0_0, .int .u64 a0_1, .int .u64 a0_2, .int .i64 a0_3]) (t := 41) ?hr ?_; (case hd => rfl); (case hg => rfl); (case hr => first | (go_simp; done) | (go_simp; rfl)); intro gb101 hg w3 hbox hb; have n0_ := aM' (below_step (by repeat (first | (with_reducible first | exact HB.out | apply below_alloc | apply pw_below_drewN | apply below_drew1) | exact HB.out)) hb); have n1_ := aM' (hbox); have n2_ := aM' ((by rw [hg]; exact (below_size (by repeat (first | (with_reducible first | exact HB.out | apply below_alloc | apply pw_below_drewN | apply below_drew1) | exact HB.out))) : w.heap.size ≤ gb101)); have n3_ := aM' ((by rw [hg]; exact (below_size (by repeat (first | (with_reducible first | exact HB.out | apply below_alloc | apply pw_below_drewN | apply below_drew1) | exact HB.out))) : w.heap.size ≤ gb101)); clear HB; have HB := n0_; have BK101 := n1_; have GW101 := n2_; have GE101 := n3_; clear n0_ n1_ n2_ n3_; clear hb hbox hg))
 go_loopg [11] k (fun kq v11 w' => ∃ (x11_1 : Int), v11 = .int .i64 x11_1 ∧ Aside0 (verify_All.l0 kq l1 l1 (l1.length : Int) x11_1 a0_0 a0_1 a0_2 a0_3 = some (r1, r2)) ∧ Aside0 (kq ≤ k) ∧ Aside0 (w'.heap[gb101]? = some (.cells #[.string a0_0, .int .u64 a0_1, .int .u64 a0_2, .int .i64 a0_3] 41 (0, 0))) ∧ Aside0 (Below w.heap.size w w'))
 case atStart => exact ⟨(0), (by first | rfl | (simp; done) | (simp [*]; done)), H', ⟨Nat.le_refl _⟩, ⟨by (with_reducible repeat (first | refine blk_drewN ?_ _ | refine blk_drew ?_ | refine blk_alloc ?_ _)); exact BK101.out⟩, ⟨by repeat (first | (with_reducible first | exact HB.out | apply below_alloc | apply pw_below_drewN | apply below_drew1 | refine below_set ?_ GE101.out) | exact HB.out)⟩⟩
 case round =>
  clear H'
  try clear c1
  try clear p2
  obtain ⟨x11_1, rfl, HA, HK1, BK101, HB⟩ := hrel
  cases gk with
  | zero => exact absurd HA.out (by simp [verify_All.l0])
  | succ k1 =>
   have H := HA.out
   clear HA
   simp only [verify_All.l0] at H
   by_cases c4 : x11_1 < (l1.length : Int)
   ·
    rw [if_pos c4] at H
    have c4b0 : decide (x11_1 < (l1.length : Int)) = true := decide_eq_true c4
    clear c4
    by_cases c5 : 0 ≤ x11_1
    ·
     rw [if_pos c5] at H
     have c5b0 : decide (0 ≤ x11_1) = true := decide_eq_true c5
     clear c5
     by_cases c6 : x11_1 < (l1.length : Int)
     ·
      rw [if_pos c6] at H
      have c6b0 : decide (x11_1 < (l1.length : Int)) = true := decide_eq_true c6
      clear c6
      replace H := Option.bind_eq_some_iff.mp H
      obtain ⟨t104, A70, H⟩ := H
      replace H : (if t104 = 0 then (verify_All.l0 k1 l1 l1 (l1.length : Int) (wrap64 (x11_1 + 1)) a0_0 a0_1 a0_2 a0_3) else (some (x11_1, t104))) = some (r1, r2) := H
      have A7 := aM' A70
      clear A70
      by_cases c8 : t104 = 0
      ·
       rw [if_pos c8] at H
       have c8b0 : (t104 == 0) = true := beq_iff_eq.mpr c8
       have c8b1 : (t104 != 0) = false := bne_eq_false_iff_eq.mpr c8
       clear c8
       have H' := aM' H
       clear H
       have p102 : 0 ≤ (x11_1 : Int) := of_decide_eq_true (by first | (with_reducible assumption) | assumption)
       have q102 : x11_1 < (l1.length : Int) := of_decide_eq_true (by first | (with_reducible assumption) | assumption)
       obtain ⟨ad102, A102_6, c102_6, e102, hx102_0, hx102_1, hx102_2, hx102_3, hx102_4, hx102_5, hx102_6, hl102_6, hi102_6⟩ := at_TEntry HR1.out x11_1 p102 q102
       cases e102
       replace hx102_0 := (HB.out.cell (bL' w _ hx102_0)).trans hx102_0
       replace hx102_1 := (HB.out.cell (bL' w _ hx102_1)).trans hx102_1
       replace hx102_2 := (HB.out.cell (bL' w _ hx102_2)).trans hx102_2
       replace hx102_3 := (HB.out.cell (bL' w _ hx102_3)).trans hx102_3
       replace hx102_4 := (HB.out.cell (bL' w _ hx102_4)).trans hx102_4
       replace hx102_5 := (HB.out.cell (bL' w _ hx102_5)).trans hx102_5
       replace hx102_6 := (HB.out.cell (bL' w _ hx102_6)).trans hx102_6
       have HR102_6 := aM' hi102_6
       have HC102_6 := aM' hl102_6
       clear hi102_6 hl102_6
       replace p102 := eq_true p102
       replace q102 := eq_true q102
       go_wp2_with (first | ((with_reducible refine gate_dst (N := 7) rfl ?_); refine box_event ?hg (N := 7) ?hd (cs := #[.bool false, .string (⟨#[]⟩ : ByteArray), .string (⟨#[]⟩ : ByteArray), .int .u64 0, .int .u64 0, .int .u64 0, .slice none 0 0]) (t := 70) ?hr ?_; (case hd => rfl); (case hg => rfl); (case hr => first | (go_simp; done) | (go_simp; rfl)); intro gb103 hg w9 hbox hb; have n0_ := aM' (blk_below (g := gb101) (o := .cells #[.string a0_0, .int .u64 a0_1, .int .u64 a0_2, .int .i64 a0_3] 41 (0, 0)) (by (with_reducible repeat (first | refine blk_drewN ?_ _ | refine blk_drew ?_ | refine blk_alloc ?_ _)); exact BK101.out) hb); have n1_ := aM' (below_step (by repeat (first | (with_reducible first | exact HB.out | apply below_alloc | apply pw_below_drewN | apply below_drew1 | refine below_set ?_ GE101.out) | exact HB.out)) hb); have n2_ := aM' (hbox); have n3_ := aM' ((by rw [hg]; exact (below_size (by repeat (first | (with_reducible first | exact HB.out | apply below_alloc | apply pw_below_drewN | apply below_drew1 | refine below_set ?_ GE101.out) | exact HB.out))) : w.heap.size ≤ gb103)); have n4_ := aM' ((by rw [hg]; exact (below_size (by repeat (first | (with_reducible first | exact HB.out | apply below_alloc | apply pw_below_drewN | apply below_drew1 | refine below_set ?_ GE101.out) | exact HB.out))) : w.heap.size ≤ gb103)); have n5_ := aM' ((by rw [hg]; exact Nat.ne_of_lt (blk_lt (g := gb101) (o := .cells #[.string a0_0, .int .u64 a0_1, .int .u64 a0_2, .int .i64 a0_3] 41 (0, 0)) (by (with_reducible repeat (first | refine blk_drewN ?_ _ | refine blk_drew ?_ | refine blk_alloc ?_ _)); exact BK101.out)) : gb101 ≠ gb103)); have n6_ := aM' ((by rw [hg]; exact Nat.ne_of_gt (blk_lt (g := gb101) (o := .cells #[.string a0_0, .int .u64 a0_1, .int .u64 a0_2, .int .i64 a0_3] 41 (0, 0)) (by (with_reducible repeat (first | refine blk_drewN ?_ _ | refine blk_drew ?_ | refine blk_alloc ?_ _)); exact BK101.out)) : gb103 ≠ gb101)); clear BK101; clear HB; have BK101 := n0_; have HB := n1_; have BK103 := n2_; have GW103 := n3_; have GE103 := n4_; have NB101_103 := n5_; have NB103_101 := n6_; clear n0_ n1_ n2_ n3_ n4_ n5_ n6_; clear hb hbox hg; have hnb10 := NB103_101.out; have hnc10 := NB101_103.out; have hcz11_0 : w9.cell? ⟨gb103, 0, none⟩ = some (.bool false) := (blk_cell BK103.out 0).trans rfl; have hcz11_1 : w9.cell? ⟨gb103, 1, none⟩ = some (.string (⟨#[]⟩ : ByteArray)) := (blk_cell BK103.out 1).trans rfl; have hcz11_2 : w9.cell? ⟨gb103, 2, none⟩ = some (.string (⟨#[]⟩ : ByteArray)) := (blk_cell BK103.out 2).trans rfl; have hcz11_3 : w9.cell? ⟨gb103, 3, none⟩ = some (.int .u64 0) := (blk_cell BK103.out 3).trans rfl; have hcz11_4 : w9.cell? ⟨gb103, 4, none⟩ = some (.int .u64 0) := (blk_cell BK103.out 4).trans rfl; have hcz11_5 : w9.cell? ⟨gb103, 5, none⟩ = some (.int .u64 0) := (blk_cell BK103.out 5).trans rfl; have hcz11_6 : w9.cell? ⟨gb103, 6, none⟩ = some (.slice none 0 0) := (blk_cell BK103.out 6).trans rfl; have hfz11_0 := blk_frozen BK103.out 0; have hfz11_1 := blk_frozen BK103.out 1; have hfz11_2 := blk_frozen BK103.out 2; have hfz11_3 := blk_frozen BK103.out 3; have hfz11_4 := blk_frozen BK103.out 4; have hfz11_5 := blk_frozen BK103.out 5; have hfz11_6 := blk_frozen BK103.out 6; have hcz12_0 : w9.cell? ⟨gb101, 0, none⟩ = some (.string a0_0) := (blk_cell BK101.out 0).trans rfl; have hcz12_1 : w9.cell? ⟨gb101, 1, none⟩ = some (.int .u64 a0_1) := (blk_cell BK101.out 1).trans rfl; have hcz12_2 : w9.cell? ⟨gb101, 2, none⟩ = some (.int .u64 a0_2) := (blk_cell BK101.out 2).trans rfl; have hcz12_3 : w9.cell? ⟨gb101, 3, none⟩ = some (.int .i64 a0_3) := (blk_cell BK101.out 3).trans rfl; have hfz12_0 := blk_frozen BK101.out 0; have hfz12_1 := blk_frozen BK101.out 1; have hfz12_2 := blk_frozen BK101.out 2; have hfz12_3 := blk_frozen BK101.out 3) | ((with_reducible refine gate_callee (f := 44) rfl ?_); refine goesL_ (some 18) rfl rfl Tryd.func44 (by kernel_rfl) rfl #[.agg #[.string a0_0, .int .u64 a0_1, .int .u64 a0_2, .int .i64 a0_3], .agg #[.bool ((rd_TEntry l1 x11_1).f0.f0), .string ((rd_TEntry l1 x11_1).f0.f1), .string ((rd_TEntry l1 x11_1).f0.f2), .int .u64 ((rd_TEntry l1 x11_1).f0.f3.f0), .int .u64 ((rd_TEntry l1 x11_1).f0.f3.f1), .int .u64 ((rd_TEntry l1 x11_1).f1.f0), .slice A102_6 ((rd_TEntry l1 x11_1).f1.f1).length c102_6]] rfl (by (try simp only [List.map_toArray, List.map_cons, List.map_nil]); first | done | rfl | (simp only [List.length_drop, List.length_take]; rfl)) ?_; (with_reducible refine (verify_Check.calls a0_0 a0_1 a0_2 a0_3 ((rd_TEntry l1 x11_1).f0.f0) ((rd_TEntry l1 x11_1).f0.f1) ((rd_TEntry l1 x11_1).f0.f2) ((rd_TEntry l1 x11_1).f0.f3.f0) ((rd_TEntry l1 x11_1).f0.f3.f1) ((rd_TEntry l1 x11_1).f1.f0) _ _ ((rd_TEntry l1 x11_1).f1.f1) t104 _ ?side1 ?side2 ?side3 A7.out).mono ?_); (case side1 => exact LaidT.below HLD.out (by repeat (first | (with_reducible first | exact HB.out | apply below_alloc | apply pw_below_drewN | apply below_drew1 | refine below_set ?_ GE101.out | refine below_set ?_ GE103.out) | exact HB.out))); (case side2 => exact Kd.C_below HR102_6.out (by repeat (first | (with_reducible first | exact HB.out | apply below_alloc | apply pw_below_drewN | apply below_drew1 | refine below_set ?_ GE101.out | refine below_set ?_ GE103.out) | exact HB.out))); (case side3 => exact HC102_6.out); rintro e w13 ⟨rfl, hb⟩; refine ⟨_, rfl, ?_⟩; have n0_ := aM' (blk_below (g := gb101) (o := .cells #[.string a0_0, .int .u64 a0_1, .int .u64 a0_2, .int .i64 a0_3] 41 (0, 0)) (by (with_reducible repeat (first | refine blk_drewN ?_ _ | refine blk_drew ?_ | refine blk_alloc ?_ _)); refine blk_far ?_ NB101_103.out _; (with_reducible repeat (first | refine blk_drewN ?_ _ | refine blk_drew ?_ | refine blk_alloc ?_ _)); refine blk_far ?_ NB101_103.out _; (with_reducible repeat (first | refine blk_drewN ?_ _ | refine blk_drew ?_ | refine blk_alloc ?_ _)); refine blk_far ?_ NB101_103.out _; (with_reducible repeat (first | refine blk_drewN ?_ _ | refine blk_drew ?_ | refine blk_alloc ?_ _)); refine blk_far ?_ NB101_103.out _; (with_reducible repeat (first | refine blk_drewN ?_ _ | refine blk_drew ?_ | refine blk_alloc ?_ _)); refine blk_far ?_ NB101_103.out _; (with_reducible repeat (first | refine blk_drewN ?_ _ | refine blk_drew ?_ | refine blk_alloc ?_ _)); refine blk_far ?_ NB101_103.out _; (with_reducible repeat (first | refine blk_drewN ?_ _ | refine blk_drew ?_ | refine blk_alloc ?_ _)); refine blk_far ?_ NB101_103.out _; (with_reducible repeat (first | refine blk_drewN ?_ _ | refine blk_drew ?_ | refine blk_alloc ?_ _)); exact BK101.out) hb); have n1_ := aM' (blk_below (g := gb103) (o := .cells #[.bool ((rd_TEntry l1 x11_1).f0.f0), .string ((rd_TEntry l1 x11_1).f0.f1), .string ((rd_TEntry l1 x11_1).f0.f2), .int .u64 ((rd_TEntry l1 x11_1).f0.f3.f0), .int .u64 ((rd_TEntry l1 x11_1).f0.f3.f1), .int .u64 ((rd_TEntry l1 x11_1).f1.f0), .slice A102_6 ((rd_TEntry l1 x11_1).f1.f1).length c102_6] 70 (0, 0)) (by (with_reducible repeat (first | refine blk_drewN ?_ _ | refine blk_drew ?_ | refine blk_alloc ?_ _)); refine blk_put (cs := #[.bool ((rd_TEntry l1 x11_1).f0.f0), .string ((rd_TEntry l1 x11_1).f0.f1), .string ((rd_TEntry l1 x11_1).f0.f2), .int .u64 ((rd_TEntry l1 x11_1).f0.f3.f0), .int .u64 ((rd_TEntry l1 x11_1).f0.f3.f1), .int .u64 ((rd_TEntry l1 x11_1).f1.f0), .slice none 0 0]) ?_ 6 _ rfl; (with_reducible repeat (first | refine blk_drewN ?_ _ | refine blk_drew ?_ | refine blk_alloc ?_ _)); refine blk_put (cs := #[.bool ((rd_TEntry l1 x11_1).f0.f0), .string ((rd_TEntry l1 x11_1).f0.f1), .string ((rd_TEntry l1 x11_1).f0.f2), .int .u64 ((rd_TEntry l1 x11_1).f0.f3.f0), .int .u64 ((rd_TEntry l1 x11_1).f0.f3.f1), .int .u64 0, .slice none 0 0]) ?_ 5 _ rfl; (with_reducible repeat (first | refine blk_drewN ?_ _ | refine blk_drew ?_ | refine blk_alloc ?_ _)); refine blk_put (cs := #[.bool ((rd_TEntry l1 x11_1).f0.f0), .string ((rd_TEntry l1 x11_1).f0.f1), .string ((rd_TEntry l1 x11_1).f0.f2), .int .u64 ((rd_TEntry l1 x11_1).f0.f3.f0), .int .u64 0, .int .u64 0, .slice none 0 0]) ?_ 4 _ rfl; (with_reducible repeat (first | refine blk_drewN ?_ _ | refine blk_drew ?_ | refine blk_alloc ?_ _)); refine blk_put (cs := #[.bool ((rd_TEntry l1 x11_1).f0.f0), .string ((rd_TEntry l1 x11_1).f0.f1), .string ((rd_TEntry l1 x11_1).f0.f2), .int .u64 0, .int .u64 0, .int .u64 0, .slice none 0 0]) ?_ 3 _ rfl; (with_reducible repeat (first | refine blk_drewN ?_ _ | refine blk_drew ?_ | refine blk_alloc ?_ _)); refine blk_put (cs := #[.bool ((rd_TEntry l1 x11_1).f0.f0), .string ((rd_TEntry l1 x11_1).f0.f1), .string (⟨#[]⟩ : ByteArray), .int .u64 0, .int .u64 0, .int .u64 0, .slice none 0 0]) ?_ 2 _ rfl; (with_reducible repeat (first | refine blk_drewN ?_ _ | refine blk_drew ?_ | refine blk_alloc ?_ _)); refine blk_put (cs := #[.bool ((rd_TEntry l1 x11_1).f0.f0), .string (⟨#[]⟩ : ByteArray), .string (⟨#[]⟩ : ByteArray), .int .u64 0, .int .u64 0, .int .u64 0, .slice none 0 0]) ?_ 1 _ rfl; (with_reducible repeat (first | refine blk_drewN ?_ _ | refine blk_drew ?_ | refine blk_alloc ?_ _)); refine blk_put (cs := #[.bool false, .string (⟨#[]⟩ : ByteArray), .string (⟨#[]⟩ : ByteArray), .int .u64 0, .int .u64 0, .int .u64 0, .slice none 0 0]) ?_ 0 _ rfl; (with_reducible repeat (first | refine blk_drewN ?_ _ | refine blk_drew ?_ | refine blk_alloc ?_ _)); exact BK103.out) hb); have n2_ := aM' (below_step (by repeat (first | (with_reducible first | exact HB.out | apply below_alloc | apply pw_below_drewN | apply below_drew1 | refine below_set ?_ GE101.out | refine below_set ?_ GE103.out) | exact HB.out)) hb); clear BK101; clear BK103; clear HB; have BK101 := n0_; have BK103 := n1_; have HB := n2_; clear n0_ n1_ n2_; (try clear hb); (try clear hb2); (try clear hk); (try clear hi)))
       go_roundg k1
       case measure => have := HK1.out; omega
       case rel => exact ⟨(wrap64 (x11_1 + 1)), (by first | rfl | (simp; done) | (simp [*]; done)), H', ⟨by have := HK1.out; omega⟩, ⟨by (with_reducible repeat (first | refine blk_drewN ?_ _ | refine blk_drew ?_ | refine blk_alloc ?_ _)); exact BK101.out⟩, ⟨by repeat (first | (with_reducible first | exact HB.out | apply below_alloc | apply pw_below_drewN | apply below_drew1 | refine below_set ?_ GE101.out | refine below_set ?_ GE103.out) | exact HB.out)⟩⟩
      ·
       rw [if_neg c8] at H
       have c8b0 : (t104 == 0) = false := beq_eq_false_iff_ne.mpr c8
       have c8b1 : (t104 != 0) = true := bne_iff_ne.mpr c8
       simp only [Option.some.injEq, Prod.mk.injEq] at H
       obtain ⟨rfl, rfl⟩ := H
       have p102 : 0 ≤ (x11_1 : Int) := of_decide_eq_true (by first | (with_reducible assumption) | assumption)
       have q102 : x11_1 < (l1.length : Int) := of_decide_eq_true (by first | (with_reducible assumption) | assumption)
       obtain ⟨ad102, A102_6, c102_6, e102, hx102_0, hx102_1, hx102_2, hx102_3, hx102_4, hx102_5, hx102_6, hl102_6, hi102_6⟩ := at_TEntry HR1.out x11_1 p102 q102
       cases e102
       replace hx102_0 := (HB.out.cell (bL' w _ hx102_0)).trans hx102_0
       replace hx102_1 := (HB.out.cell (bL' w _ hx102_1)).trans hx102_1
       replace hx102_2 := (HB.out.cell (bL' w _ hx102_2)).trans hx102_2
       replace hx102_3 := (HB.out.cell (bL' w _ hx102_3)).trans hx102_3
       replace hx102_4 := (HB.out.cell (bL' w _ hx102_4)).trans hx102_4
       replace hx102_5 := (HB.out.cell (bL' w _ hx102_5)).trans hx102_5
       replace hx102_6 := (HB.out.cell (bL' w _ hx102_6)).trans hx102_6
       have HR102_6 := aM' hi102_6
       have HC102_6 := aM' hl102_6
       clear hi102_6 hl102_6
       replace p102 := eq_true p102
       replace q102 := eq_true q102
       go_wp2_with (first | ((with_reducible refine gate_dst (N := 7) rfl ?_); refine box_event ?hg (N := 7) ?hd (cs := #[.bool false, .string (⟨#[]⟩ : ByteArray), .string (⟨#[]⟩ : ByteArray), .int .u64 0, .int .u64 0, .int .u64 0, .slice none 0 0]) (t := 70) ?hr ?_; (case hd => rfl); (case hg => rfl); (case hr => first | (go_simp; done) | (go_simp; rfl)); intro gb103 hg w14 hbox hb; have n0_ := aM' (blk_below (g := gb101) (o := .cells #[.string a0_0, .int .u64 a0_1, .int .u64 a0_2, .int .i64 a0_3] 41 (0, 0)) (by (with_reducible repeat (first | refine blk_drewN ?_ _ | refine blk_drew ?_ | refine blk_alloc ?_ _)); exact BK101.out) hb); have n1_ := aM' (below_step (by repeat (first | (with_reducible first | exact HB.out | apply below_alloc | apply pw_below_drewN | apply below_drew1 | refine below_set ?_ GE101.out) | exact HB.out)) hb); have n2_ := aM' (hbox); have n3_ := aM' ((by rw [hg]; exact (below_size (by repeat (first | (with_reducible first | exact HB.out | apply below_alloc | apply pw_below_drewN | apply below_drew1 | refine below_set ?_ GE101.out) | exact HB.out))) : w.heap.size ≤ gb103)); have n4_ := aM' ((by rw [hg]; exact (below_size (by repeat (first | (with_reducible first | exact HB.out | apply below_alloc | apply pw_below_drewN | apply below_drew1 | refine below_set ?_ GE101.out) | exact HB.out))) : w.heap.size ≤ gb103)); have n5_ := aM' ((by rw [hg]; exact Nat.ne_of_lt (blk_lt (g := gb101) (o := .cells #[.string a0_0, .int .u64 a0_1, .int .u64 a0_2, .int .i64 a0_3] 41 (0, 0)) (by (with_reducible repeat (first | refine blk_drewN ?_ _ | refine blk_drew ?_ | refine blk_alloc ?_ _)); exact BK101.out)) : gb101 ≠ gb103)); have n6_ := aM' ((by rw [hg]; exact Nat.ne_of_gt (blk_lt (g := gb101) (o := .cells #[.string a0_0, .int .u64 a0_1, .int .u64 a0_2, .int .i64 a0_3] 41 (0, 0)) (by (with_reducible repeat (first | refine blk_drewN ?_ _ | refine blk_drew ?_ | refine blk_alloc ?_ _)); exact BK101.out)) : gb103 ≠ gb101)); clear BK101; clear HB; have BK101 := n0_; have HB := n1_; have BK103 := n2_; have GW103 := n3_; have GE103 := n4_; have NB101_103 := n5_; have NB103_101 := n6_; clear n0_ n1_ n2_ n3_ n4_ n5_ n6_; clear hb hbox hg; have hnb15 := NB103_101.out; have hnc15 := NB101_103.out; have hcz16_0 : w14.cell? ⟨gb103, 0, none⟩ = some (.bool false) := (blk_cell BK103.out 0).trans rfl; have hcz16_1 : w14.cell? ⟨gb103, 1, none⟩ = some (.string (⟨#[]⟩ : ByteArray)) := (blk_cell BK103.out 1).trans rfl; have hcz16_2 : w14.cell? ⟨gb103, 2, none⟩ = some (.string (⟨#[]⟩ : ByteArray)) := (blk_cell BK103.out 2).trans rfl; have hcz16_3 : w14.cell? ⟨gb103, 3, none⟩ = some (.int .u64 0) := (blk_cell BK103.out 3).trans rfl; have hcz16_4 : w14.cell? ⟨gb103, 4, none⟩ = some (.int .u64 0) := (blk_cell BK103.out 4).trans rfl; have hcz16_5 : w14.cell? ⟨gb103, 5, none⟩ = some (.int .u64 0) := (blk_cell BK103.out 5).trans rfl; have hcz16_6 : w14.cell? ⟨gb103, 6, none⟩ = some (.slice none 0 0) := (blk_cell BK103.out 6).trans rfl; have hfz16_0 := blk_frozen BK103.out 0; have hfz16_1 := blk_frozen BK103.out 1; have hfz16_2 := blk_frozen BK103.out 2; have hfz16_3 := blk_frozen BK103.out 3; have hfz16_4 := blk_frozen BK103.out 4; have hfz16_5 := blk_frozen BK103.out 5; have hfz16_6 := blk_frozen BK103.out 6; have hcz17_0 : w14.cell? ⟨gb101, 0, none⟩ = some (.string a0_0) := (blk_cell BK101.out 0).trans rfl; have hcz17_1 : w14.cell? ⟨gb101, 1, none⟩ = some (.int .u64 a0_1) := (blk_cell BK101.out 1).trans rfl; have hcz17_2 : w14.cell? ⟨gb101, 2, none⟩ = some (.int .u64 a0_2) := (blk_cell BK101.out 2).trans rfl; have hcz17_3 : w14.cell? ⟨gb101, 3, none⟩ = some (.int .i64 a0_3) := (blk_cell BK101.out 3).trans rfl; have hfz17_0 := blk_frozen BK101.out 0; have hfz17_1 := blk_frozen BK101.out 1; have hfz17_2 := blk_frozen BK101.out 2; have hfz17_3 := blk_frozen BK101.out 3) | ((with_reducible refine gate_callee (f := 44) rfl ?_); refine goesL_ (some 18) rfl rfl Tryd.func44 (by kernel_rfl) rfl #[.agg #[.string a0_0, .int .u64 a0_1, .int .u64 a0_2, .int .i64 a0_3], .agg #[.bool ((rd_TEntry l1 x11_1).f0.f0), .string ((rd_TEntry l1 x11_1).f0.f1), .string ((rd_TEntry l1 x11_1).f0.f2), .int .u64 ((rd_TEntry l1 x11_1).f0.f3.f0), .int .u64 ((rd_TEntry l1 x11_1).f0.f3.f1), .int .u64 ((rd_TEntry l1 x11_1).f1.f0), .slice A102_6 ((rd_TEntry l1 x11_1).f1.f1).length c102_6]] rfl (by (try simp only [List.map_toArray, List.map_cons, List.map_nil]); first | done | rfl | (simp only [List.length_drop, List.length_take]; rfl)) ?_; (with_reducible refine (verify_Check.calls a0_0 a0_1 a0_2 a0_3 ((rd_TEntry l1 x11_1).f0.f0) ((rd_TEntry l1 x11_1).f0.f1) ((rd_TEntry l1 x11_1).f0.f2) ((rd_TEntry l1 x11_1).f0.f3.f0) ((rd_TEntry l1 x11_1).f0.f3.f1) ((rd_TEntry l1 x11_1).f1.f0) _ _ ((rd_TEntry l1 x11_1).f1.f1) t104 _ ?side1 ?side2 ?side3 A7.out).mono ?_); (case side1 => exact LaidT.below HLD.out (by repeat (first | (with_reducible first | exact HB.out | apply below_alloc | apply pw_below_drewN | apply below_drew1 | refine below_set ?_ GE101.out | refine below_set ?_ GE103.out) | exact HB.out))); (case side2 => exact Kd.C_below HR102_6.out (by repeat (first | (with_reducible first | exact HB.out | apply below_alloc | apply pw_below_drewN | apply below_drew1 | refine below_set ?_ GE101.out | refine below_set ?_ GE103.out) | exact HB.out))); (case side3 => exact HC102_6.out); rintro e w18 ⟨rfl, hb⟩; refine ⟨_, rfl, ?_⟩; have n0_ := aM' (blk_below (g := gb101) (o := .cells #[.string a0_0, .int .u64 a0_1, .int .u64 a0_2, .int .i64 a0_3] 41 (0, 0)) (by (with_reducible repeat (first | refine blk_drewN ?_ _ | refine blk_drew ?_ | refine blk_alloc ?_ _)); refine blk_far ?_ NB101_103.out _; (with_reducible repeat (first | refine blk_drewN ?_ _ | refine blk_drew ?_ | refine blk_alloc ?_ _)); refine blk_far ?_ NB101_103.out _; (with_reducible repeat (first | refine blk_drewN ?_ _ | refine blk_drew ?_ | refine blk_alloc ?_ _)); refine blk_far ?_ NB101_103.out _; (with_reducible repeat (first | refine blk_drewN ?_ _ | refine blk_drew ?_ | refine blk_alloc ?_ _)); refine blk_far ?_ NB101_103.out _; (with_reducible repeat (first | refine blk_drewN ?_ _ | refine blk_drew ?_ | refine blk_alloc ?_ _)); refine blk_far ?_ NB101_103.out _; (with_reducible repeat (first | refine blk_drewN ?_ _ | refine blk_drew ?_ | refine blk_alloc ?_ _)); refine blk_far ?_ NB101_103.out _; (with_reducible repeat (first | refine blk_drewN ?_ _ | refine blk_drew ?_ | refine blk_alloc ?_ _)); refine blk_far ?_ NB101_103.out _; (with_reducible repeat (first | refine blk_drewN ?_ _ | refine blk_drew ?_ | refine blk_alloc ?_ _)); exact BK101.out) hb); have n1_ := aM' (blk_below (g := gb103) (o := .cells #[.bool ((rd_TEntry l1 x11_1).f0.f0), .string ((rd_TEntry l1 x11_1).f0.f1), .string ((rd_TEntry l1 x11_1).f0.f2), .int .u64 ((rd_TEntry l1 x11_1).f0.f3.f0), .int .u64 ((rd_TEntry l1 x11_1).f0.f3.f1), .int .u64 ((rd_TEntry l1 x11_1).f1.f0), .slice A102_6 ((rd_TEntry l1 x11_1).f1.f1).length c102_6] 70 (0, 0)) (by (with_reducible repeat (first | refine blk_drewN ?_ _ | refine blk_drew ?_ | refine blk_alloc ?_ _)); refine blk_put (cs := #[.bool ((rd_TEntry l1 x11_1).f0.f0), .string ((rd_TEntry l1 x11_1).f0.f1), .string ((rd_TEntry l1 x11_1).f0.f2), .int .u64 ((rd_TEntry l1 x11_1).f0.f3.f0), .int .u64 ((rd_TEntry l1 x11_1).f0.f3.f1), .int .u64 ((rd_TEntry l1 x11_1).f1.f0), .slice none 0 0]) ?_ 6 _ rfl; (with_reducible repeat (first | refine blk_drewN ?_ _ | refine blk_drew ?_ | refine blk_alloc ?_ _)); refine blk_put (cs := #[.bool ((rd_TEntry l1 x11_1).f0.f0), .string ((rd_TEntry l1 x11_1).f0.f1), .string ((rd_TEntry l1 x11_1).f0.f2), .int .u64 ((rd_TEntry l1 x11_1).f0.f3.f0), .int .u64 ((rd_TEntry l1 x11_1).f0.f3.f1), .int .u64 0, .slice none 0 0]) ?_ 5 _ rfl; (with_reducible repeat (first | refine blk_drewN ?_ _ | refine blk_drew ?_ | refine blk_alloc ?_ _)); refine blk_put (cs := #[.bool ((rd_TEntry l1 x11_1).f0.f0), .string ((rd_TEntry l1 x11_1).f0.f1), .string ((rd_TEntry l1 x11_1).f0.f2), .int .u64 ((rd_TEntry l1 x11_1).f0.f3.f0), .int .u64 0, .int .u64 0, .slice none 0 0]) ?_ 4 _ rfl; (with_reducible repeat (first | refine blk_drewN ?_ _ | refine blk_drew ?_ | refine blk_alloc ?_ _)); refine blk_put (cs := #[.bool ((rd_TEntry l1 x11_1).f0.f0), .string ((rd_TEntry l1 x11_1).f0.f1), .string ((rd_TEntry l1 x11_1).f0.f2), .int .u64 0, .int .u64 0, .int .u64 0, .slice none 0 0]) ?_ 3 _ rfl; (with_reducible repeat (first | refine blk_drewN ?_ _ | refine blk_drew ?_ | refine blk_alloc ?_ _)); refine blk_put (cs := #[.bool ((rd_TEntry l1 x11_1).f0.f0), .string ((rd_TEntry l1 x11_1).f0.f1), .string (⟨#[]⟩ : ByteArray), .int .u64 0, .int .u64 0, .int .u64 0, .slice none 0 0]) ?_ 2 _ rfl; (with_reducible repeat (first | refine blk_drewN ?_ _ | refine blk_drew ?_ | refine blk_alloc ?_ _)); refine blk_put (cs := #[.bool ((rd_TEntry l1 x11_1).f0.f0), .string (⟨#[]⟩ : ByteArray), .string (⟨#[]⟩ : ByteArray), .int .u64 0, .int .u64 0, .int .u64 0, .slice none 0 0]) ?_ 1 _ rfl; (with_reducible repeat (first | refine blk_drewN ?_ _ | refine blk_drew ?_ | refine blk_alloc ?_ _)); refine blk_put (cs := #[.bool false, .string (⟨#[]⟩ : ByteArray), .string (⟨#[]⟩ : ByteArray), .int .u64 0, .int .u64 0, .int .u64 0, .slice none 0 0]) ?_ 0 _ rfl; (with_reducible repeat (first | refine blk_drewN ?_ _ | refine blk_drew ?_ | refine blk_alloc ?_ _)); exact BK103.out) hb); have n2_ := aM' (below_step (by repeat (first | (with_reducible first | exact HB.out | apply below_alloc | apply pw_below_drewN | apply below_drew1 | refine below_set ?_ GE101.out | refine below_set ?_ GE103.out) | exact HB.out)) hb); clear BK101; clear BK103; clear HB; have BK101 := n0_; have BK103 := n1_; have HB := n2_; clear n0_ n1_ n2_; (try clear hb); (try clear hb2); (try clear hk); (try clear hi)))
       go_ret2
       exact ⟨by first | rfl | (simp [errW_none, errW_some] <;> rfl) | (simp [*, errW_none, errW_some] <;> rfl), by repeat (first | (with_reducible first | exact HB.out | apply below_alloc | apply pw_below_drewN | apply below_drew1 | refine below_set ?_ GE101.out | refine below_set ?_ GE103.out) | exact HB.out)⟩
     ·
      rw [if_neg c6] at H
      exact absurd H (by simp)
    ·
     rw [if_neg c5] at H
     exact absurd H (by simp)
   ·
    rw [if_neg c4] at H
    have c4b0 : decide (x11_1 < (l1.length : Int)) = false := decide_eq_false c4
    clear c4
    simp only [Option.some.injEq, Prod.mk.injEq] at H
    obtain ⟨rfl, rfl⟩ := H
    go_wp2
    go_ret2
    exact ⟨by first | rfl | (simp [errW_none, errW_some] <;> rfl) | (simp [*, errW_none, errW_some] <;> rfl), by repeat (first | (with_reducible first | exact HB.out | apply below_alloc | apply pw_below_drewN | apply below_drew1 | refine below_set ?_ GE101.out) | exact HB.out)⟩
end Go.Proofs.YtfcodmdckcihmaaDoor.P
namespace Go.Proofs.YtfcodmdckcihmaaDoor.P
open Go.RowKit Go.Proofs.YtfcodmdckcihmaaDoorW.PrintWords Go.Proofs.YtfcodmdckcihmaaDoorW.PrintLast Go.Proofs.YtfcodmdckcihmaaDoorW.PrintMore
set_option linter.unusedVariables false
set_option linter.unusedSimpArgs false
set_option linter.unnecessarySimpa false
structure STree where
 wd : Int
 leaves : List SLeaf
 rows : List (List SNode)
structure TreeAt (W : World) (a : Nat) (T : STree) (LA : Option Addr) (cl : Nat) (va : Addr) (cv : Nat) : Prop where
 box : W.heap[a]? = some (.cells #[.int .i64 T.wd, .slice LA T.leaves.length cl, .slice (some va) T.rows.length cv] 105 (0, 0))
 lcap : T.leaves.length ≤ cl
 lread : Kd.C kLeaf W LA T.leaves.length T.leaves
 lmin : 1 ≤ T.leaves.length
 lmax : T.leaves.length ≤ 1024
 vcap : T.rows.length ≤ cv
 vmin : 1 ≤ T.rows.length
 vmax : T.rows.length ≤ 11
 rows : ∀ i, (h : i < T.rows.length) → ∃ ra rc, W.cell? (va.add (i * 2)) = some (.slice (some ra) T.rows[i].length rc) ∧ W.cell? ⟨(va.add (i * 2)).block, (va.add (i * 2)).off + 1, none⟩ = some (.int .i64 (i : Int)) ∧ T.rows[i].length ≤ rc ∧ Kd.C kNode W (some ra) T.rows[i].length T.rows[i] ∧ 1 ≤ T.rows[i].length ∧ T.rows[i].length ≤ 1024
abbrev nodeZ : SNode := ⟨⟨#[]⟩, ⟨0, 0⟩⟩
def TreeR (a : Nat) (T : STree) (W : World) : Prop := ∃ LA cl va cv, TreeAt W a T LA cl va cv
theorem TreeR.below {W W' : World} {a : Nat} {T : STree} (h : TreeR a T W) (hb : Below W.heap.size W W') : TreeR a T W' := by
 obtain ⟨LA, cl, va, cv, h⟩ := h
 refine ⟨LA, cl, va, cv, blk_below h.box hb, h.lcap, Kd.C_below h.lread hb, h.lmin, h.lmax, h.vcap, h.vmin, h.vmax, fun i hi => ?_⟩
 obtain ⟨ra, rc, h1, h1', h2, h3, h4⟩ := h.rows i hi
 exact ⟨ra, rc, pw_cell_below hb h1, pw_cell_below hb h1', h2, Kd.C_below h3 hb, h4⟩
abbrev ptrT (a : Nat) : Value := .pointer (some ⟨a, 0, none⟩)
theorem tNone.calls (a : Nat) (T : STree) (w : World) (h : TreeR a T w) : Calls Tryd.prog 63 #[ptrT a] w fun e w' => e = .returned (.bool false) ∧ w = w' := by
 obtain ⟨LA, cl, va, cv, h⟩ := h
 have hu := Tryd.underlying105
 have h2 : w.cell? ⟨a, 2, none⟩ = some (.slice (some va) T.rows.length cv) := blk_cell h.box 2
 have h3 := h.vmin
 have b0 : ((T.rows.length : Int) == 0) = false := by simp; intro h; rw [h] at h3; simp at h3
 clear h h3
 go_enter Tryd.func63, Tryd.ntmps63
 go_wp2_with fail
 go_ret
 exact ⟨rfl, rfl⟩
theorem tWidth.calls (a : Nat) (T : STree) (w : World) (h : TreeR a T w) : Calls Tryd.prog 18 #[ptrT a] w fun e w' => e = .returned (.int .i64 T.wd) ∧ w = w' := by
 have q := aM' (tNone.calls a T w h)
 obtain ⟨LA, cl, va, cv, h⟩ := h
 have hu := Tryd.underlying105
 have h2 : w.cell? ⟨a, 0, none⟩ = some (.int .i64 T.wd) := blk_cell h.box 0
 clear h
 go_enter Tryd.func18, Tryd.ntmps18
 go_wp2_with fail
 refine q.out.mono ?_
 rintro e w1 ⟨rfl, rfl⟩
 go_wp2
 go_ret
 exact ⟨rfl, rfl⟩
theorem tHeight.calls (a : Nat) (T : STree) (w : World) (h : TreeR a T w) : Calls Tryd.prog 19 #[ptrT a] w fun e w' => e = .returned (.int .i64 ((T.rows.length : Int) - 1)) ∧ w = w' := by
 have q := aM' (tNone.calls a T w h)
 obtain ⟨LA, cl, va, cv, h⟩ := h
 have hu := Tryd.underlying105
 have h2 : w.cell? ⟨a, 2, none⟩ = some (.slice (some va) T.rows.length cv) := blk_cell h.box 2
 have h3 := h.vmin
 have h4 := h.vmax
 clear h
 go_enter Tryd.func19, Tryd.ntmps19
 go_wp2_with fail
 refine q.out.mono ?_
 rintro e w1 ⟨rfl, rfl⟩
 go_wp2
 go_ret
 exact ⟨rfl, rfl⟩
theorem rowAt.calls (ra : Addr) (l : List SNode) (rc : Nat) (p : Int) (w : World) (hr : Kd.C kNode w (some ra) l.length l) (hl : l.length ≤ 1024) (hc : l.length ≤ rc) (hp : 0 ≤ p) :
  Calls Tryd.prog 65 #[.agg #[.slice (some ra) l.length rc], .int .u64 p] w fun e w' => e = .returned (.tuple #[nodeV (l.getD p.toNat nodeZ), .bool (decide (p.toNat < l.length))]) ∧ Below w.heap.size w w' := by
 have hu := Tryd.underlying46
 have hu2 := Tryd.underlying107
 have hw : IntKind.u64.wrap ((l.length : Nat) : Int) = (l.length : Int) := wrapu64_id (by omega) (by omega)
 by_cases h : p.toNat < l.length
 ·
  obtain ⟨n, rfl⟩ := Int.eq_ofNat_of_zero_le hp
  rw [Int.toNat_natCast] at h ⊢
  obtain ⟨a1, e1, p0, p1, p2⟩ := at_TNode hr (n : Int) (by omega) (by omega)
  cases e1
  rw [rdNode_nat l n h, Int.toNat_natCast] at p0 p1 p2
  have e2 : l.getD n nodeZ = l[n] := by simp [List.getD_eq_getElem?_getD, h]
  rw [e2]
  generalize l[n] = x at p0 p1 p2 ⊢
  have f1 := pw_cell_below (below_alloc (below_alloc (Below.refl w.heap.size w) (.cells #[.slice (some ra) l.length rc] 107)) (.cells #[.string ⟨#[]⟩, .int .u64 0, .int .u64 0] 46)) p0
  have f2 := pw_cell_below (below_alloc (below_alloc (Below.refl w.heap.size w) (.cells #[.slice (some ra) l.length rc] 107)) (.cells #[.string ⟨#[]⟩, .int .u64 0, .int .u64 0] 46)) p1
  have f3 := pw_cell_below (below_alloc (below_alloc (Below.refl w.heap.size w) (.cells #[.slice (some ra) l.length rc] 107)) (.cells #[.string ⟨#[]⟩, .int .u64 0, .int .u64 0] 46)) p2
  have b0 : decide ((l.length : Int) ≤ (n : Int)) = false := decide_eq_false (by omega)
  have b1 : decide (l.length ≤ n) = false := decide_eq_false (by omega)
  have b2 : decide (n < l.length) = true := decide_eq_true h
  rw [b2]
  clear hr
  go_enter Tryd.func65, Tryd.ntmps65
  go_wp2
  refine bodyPost_ret (v := .tuple #[nodeV x, .bool true]) ?_ rfl ⟨rfl, ?_⟩
  ·
   simp [results, Tryd.results65, go_sem, hu]
  ·
   repeat (with_reducible first | exact Below.refl _ _ | apply below_alloc | refine below_set ?_ (by (try dsimp only); omega))
 ·
  obtain ⟨n, rfl⟩ := Int.eq_ofNat_of_zero_le hp
  rw [Int.toNat_natCast] at h ⊢
  have b0 : decide ((l.length : Int) ≤ (n : Int)) = true := decide_eq_true (by omega)
  have b1 : decide (l.length ≤ n) = true := decide_eq_true (by omega)
  have b2 : decide (n < l.length) = false := decide_eq_false h
  have e2 : l.getD n nodeZ = nodeZ := by simp [List.getD_eq_getElem?_getD, show l.length ≤ n by omega]
  rw [b2, e2]
  go_enter Tryd.func65, Tryd.ntmps65
  go_wp2
  refine bodyPost_ret (v := .tuple #[nodeV nodeZ, .bool false]) ?_ rfl ⟨rfl, ?_⟩
  ·
   simp [results, Tryd.results65, go_sem, hu]
  ·
   repeat (with_reducible first | exact Below.refl _ _ | apply below_alloc | refine below_set ?_ (by (try dsimp only); omega))
def nodeAtI (T : STree) (n p : Int) : SNode × Bool :=
 if 0 ≤ n ∧ n < (T.rows.length : Int) then ((T.rows.getD n.toNat []).getD p.toNat nodeZ, decide (p.toNat < (T.rows.getD n.toNat []).length)) else (nodeZ, false)
set_option maxRecDepth 100000 in
set_option maxHeartbeats 1000000 in
theorem tNode.calls (a : Nat) (T : STree) (n p : Int) (w : World) (h : TreeR a T w) (hp : 0 ≤ p) :
  Calls Tryd.prog 24 #[ptrT a, .int .i64 n, .int .u64 p] w fun e w' => e = .returned (.tuple #[nodeV (nodeAtI T n p).1, .bool (nodeAtI T n p).2]) ∧ Below w.heap.size w w' := by
 have hu := Tryd.underlying105
 have hu2 := Tryd.underlying109
 have hu3 := Tryd.underlying107
 have hu4 := Tryd.underlying46
 obtain ⟨W1, hW1⟩ : ∃ V, V = w.alloc (.cells #[.string ⟨#[]⟩, .int .u64 0, .int .u64 0] 46) := ⟨_, rfl⟩
 have hb1 : Below w.heap.size w W1 := by rw [hW1]; exact below_alloc (Below.refl _ _) _
 have hz1 : W1.heap[w.heap.size]? = some (.cells #[.string ⟨#[]⟩, .int .u64 0, .int .u64 0] 46 (0, 0)) := by rw [hW1]; exact blk_new _ _
 have h1 := h.below hb1
 have q := aM' (tNone.calls a T W1 h1)
 obtain ⟨LA, cl, va, cv, hT⟩ := h1
 have h2 : W1.cell? ⟨a, 2, none⟩ = some (.slice (some va) T.rows.length cv) := blk_cell hT.box 2
 have z0 : W1.cell? ⟨w.heap.size, 0, none⟩ = some (.string ⟨#[]⟩) := blk_cell hz1 0
 have z1 : W1.cell? ⟨w.heap.size, 1, none⟩ = some (.int .u64 0) := blk_cell hz1 1
 have z2 : W1.cell? ⟨w.heap.size, 2, none⟩ = some (.int .u64 0) := blk_cell hz1 2
 have zf : ∀ i, W1.frozen? ⟨w.heap.size, i, none⟩ = false := fun i => blk_frozen hz1 i
 have hvx := hT.vmax
 have HB1 := aM' hb1
 have HZ1 := aM' hz1
 by_cases hn : 0 ≤ n ∧ n < (T.rows.length : Int)
 ·
  obtain ⟨k, rfl⟩ := Int.eq_ofNat_of_zero_le hn.1
  have hk : k < T.rows.length := by omega
  obtain ⟨ra, rc, c0, -, hrc, hrd, -, hl2⟩ := hT.rows k hk
  have hI : nodeAtI T (k : Int) p = (T.rows[k].getD p.toNat nodeZ, decide (p.toNat < T.rows[k].length)) := by
   unfold nodeAtI; rw [if_pos hn, Int.toNat_natCast, show T.rows.getD k [] = T.rows[k] by simp [List.getD_eq_getElem?_getD, hk]]
  rw [hI]
  generalize T.rows[k] = l at c0 hrc hrd hl2 ⊢
  have HQ := aM' (rowAt.calls ra l rc p W1 hrd hl2 hrc hp)
  have b0 : decide ((k : Int) < 0) = false := decide_eq_false (by omega)
  have b1 : decide ((T.rows.length : Int) ≤ (k : Int)) = false := decide_eq_false (by omega)
  have b2 : decide (T.rows.length ≤ k) = false := decide_eq_false (by omega)
  generalize hx : l.getD p.toNat nodeZ = x at HQ ⊢
  generalize hy : decide (p.toNat < l.length) = y at HQ ⊢
  clear hn hx hy hI hrd hl2 hT h hb1 hz1
  go_enter Tryd.func24, Tryd.ntmps24
  go_wp2_with fail
  rw [← hW1]
  clear hW1
  refine q.out.mono ?_
  rintro e w1 ⟨rfl, rfl⟩
  go_wp2_with fail
  refine HQ.out.mono ?_
  rintro e w2 ⟨rfl, hb⟩
  have hz2 := blk_below HZ1.out hb
  have y0 : w2.cell? ⟨w.heap.size, 0, none⟩ = some (.string ⟨#[]⟩) := blk_cell hz2 0
  have y1 : w2.cell? ⟨w.heap.size, 1, none⟩ = some (.int .u64 0) := blk_cell hz2 1
  have y2 : w2.cell? ⟨w.heap.size, 2, none⟩ = some (.int .u64 0) := blk_cell hz2 2
  have yf : ∀ i, w2.frozen? ⟨w.heap.size, i, none⟩ = false := fun i => blk_frozen hz2 i
  have HB2 := aM' (HB1.out.trans (hb.mono HB1.out.size))
  clear hb hz2
  go_wp2
  refine bodyPost_ret (v := .tuple #[nodeV x, .bool y]) ?_ rfl ⟨rfl, ?_⟩
  ·
   simp [results, Tryd.results24, go_sem, hu4, y0, y1, y2]
  ·
   exact below_set (below_set (below_set HB2.out (Nat.le_refl _)) (Nat.le_refl _)) (Nat.le_refl _)
 ·
  have hI : nodeAtI T n p = (nodeZ, false) := by unfold nodeAtI; rw [if_neg hn]
  rw [hI]
  by_cases h0 : n < 0
  ·
   have b0 : decide (n < 0) = true := decide_eq_true h0
   clear hn hI hT h hb1 hz1
   go_enter Tryd.func24, Tryd.ntmps24
   go_wp2_with fail
   rw [← hW1]
   clear hW1
   refine q.out.mono ?_
   rintro e w1 ⟨rfl, rfl⟩
   go_wp2
   refine bodyPost_ret (v := .tuple #[nodeV nodeZ, .bool false]) ?_ rfl ⟨rfl, ?_⟩
   ·
    simp [results, Tryd.results24, go_sem, hu4, z0, z1, z2]
   ·
    exact below_set (below_set (below_set HB1.out (Nat.le_refl _)) (Nat.le_refl _)) (Nat.le_refl _)
  ·
   obtain ⟨k, rfl⟩ := Int.eq_ofNat_of_zero_le (show 0 ≤ n by omega)
   have b0 : decide ((k : Int) < 0) = false := decide_eq_false h0
   have b1 : decide ((T.rows.length : Int) ≤ (k : Int)) = true := decide_eq_true (by omega)
   have b2 : decide (T.rows.length ≤ k) = true := decide_eq_true (by omega)
   clear hn hI hT h hb1 hz1
   go_enter Tryd.func24, Tryd.ntmps24
   go_wp2_with fail
   rw [← hW1]
   clear hW1
   refine q.out.mono ?_
   rintro e w1 ⟨rfl, rfl⟩
   go_wp2
   refine bodyPost_ret (v := .tuple #[nodeV nodeZ, .bool false]) ?_ rfl ⟨rfl, ?_⟩
   ·
    simp [results, Tryd.results24, go_sem, hu4, z0, z1, z2]
   ·
    exact below_set (below_set (below_set HB1.out (Nat.le_refl _)) (Nat.le_refl _)) (Nat.le_refl _)
abbrev leafV (l : SLeaf) : Value := .agg #[.bool l.f0, .string l.f1, .string l.f2, .int .u64 l.f3.f0, .int .u64 l.f3.f1]
abbrev leafZ : SLeaf := ⟨false, ⟨#[]⟩, ⟨#[]⟩, ⟨0, 0⟩⟩
def leafAtI (T : STree) (p : Int) : SLeaf × Bool := (T.leaves.getD p.toNat leafZ, decide (p.toNat < T.leaves.length))
theorem below_set5 {w W : World} {g : Nat} (h : Below w.heap.size w W) (hg : w.heap.size ≤ g) (a b c d e : Value) : Below w.heap.size w (((((W.setCell ⟨g, 0, none⟩ a).setCell ⟨g, 1, none⟩ b).setCell ⟨g, 2, none⟩ c).setCell ⟨g, 3, none⟩ d).setCell ⟨g, 4, none⟩ e) := below_set (below_set (below_set (below_set (below_set h hg) hg) hg) hg) hg
set_option maxRecDepth 100000 in
set_option maxHeartbeats 1000000 in
theorem tLeaf.calls (a : Nat) (T : STree) (p : Int) (w : World) (h : TreeR a T w) (hp : 0 ≤ p) :
  Calls Tryd.prog 28 #[ptrT a, .int .u64 p] w fun e w' => e = .returned (.tuple #[leafV (leafAtI T p).1, .bool (leafAtI T p).2]) ∧ Below w.heap.size w w' := by
 have hu := Tryd.underlying105
 have hu4 := Tryd.underlying36
 obtain ⟨W1, hW1⟩ : ∃ V, V = w.alloc (.cells #[.bool false, .string ⟨#[]⟩, .string ⟨#[]⟩, .int .u64 0, .int .u64 0] 36) := ⟨_, rfl⟩
 have hb1 : Below w.heap.size w W1 := by rw [hW1]; exact below_alloc (Below.refl _ _) _
 have hz1 : W1.heap[w.heap.size]? = some (.cells #[.bool false, .string ⟨#[]⟩, .string ⟨#[]⟩, .int .u64 0, .int .u64 0] 36 (0, 0)) := by rw [hW1]; exact blk_new _ _
 have h1 := h.below hb1
 have q := aM' (tNone.calls a T W1 h1)
 obtain ⟨LA, cl, va, cv, hT⟩ := h1
 have h2 : W1.cell? ⟨a, 1, none⟩ = some (.slice LA T.leaves.length cl) := blk_cell hT.box 1
 have z0 : W1.cell? ⟨w.heap.size, 0, none⟩ = some (.bool false) := blk_cell hz1 0
 have z1 : W1.cell? ⟨w.heap.size, 1, none⟩ = some (.string ⟨#[]⟩) := blk_cell hz1 1
 have z2 : W1.cell? ⟨w.heap.size, 2, none⟩ = some (.string ⟨#[]⟩) := blk_cell hz1 2
 have z3 : W1.cell? ⟨w.heap.size, 3, none⟩ = some (.int .u64 0) := blk_cell hz1 3
 have z4 : W1.cell? ⟨w.heap.size, 4, none⟩ = some (.int .u64 0) := blk_cell hz1 4
 have zf : ∀ i, W1.frozen? ⟨w.heap.size, i, none⟩ = false := fun i => blk_frozen hz1 i
 have hlm := hT.lmax
 have HB1 := aM' hb1
 obtain ⟨k, rfl⟩ := Int.eq_ofNat_of_zero_le hp
 have hw : IntKind.u64.wrap ((T.leaves.length : Nat) : Int) = (T.leaves.length : Int) := wrapu64_id (by omega) (by omega)
 unfold leafAtI
 rw [Int.toNat_natCast]
 by_cases hk : k < T.leaves.length
 ·
  obtain ⟨a1, e1, p0, p1, p2, p3, p4⟩ := at_TLeaf hT.lread (k : Int) (by omega) (by omega)
  subst e1
  have e3 : rd_TLeaf T.leaves (k : Int) = T.leaves.getD k leafZ := by rw [rd_TLeaf, Int.toNat_natCast]; rfl
  rw [e3, Int.toNat_natCast] at p0 p1 p2 p3 p4
  generalize T.leaves.getD k leafZ = x at p0 p1 p2 p3 p4 ⊢
  have b0 : decide ((T.leaves.length : Int) ≤ (k : Int)) = false := decide_eq_false (by omega)
  have b1 : decide (T.leaves.length ≤ k) = false := decide_eq_false (by omega)
  have b2 : decide (k < T.leaves.length) = true := decide_eq_true hk
  rw [b2]
  clear e3 hT h hb1 hz1 hp
  go_enter Tryd.func28, Tryd.ntmps28
  go_wp2_with fail
  rw [← hW1]
  clear hW1
  refine q.out.mono ?_
  rintro e w1 ⟨rfl, rfl⟩
  go_wp2
  refine bodyPost_ret (v := .tuple #[leafV x, .bool true]) ?_ rfl ⟨rfl, ?_⟩
  ·
   simp [results, Tryd.results28, go_sem, hu4, z0, z1, z2, z3, z4]
  ·
   exact below_set5 HB1.out (Nat.le_refl _) _ _ _ _ _
 ·
  have b0 : decide ((T.leaves.length : Int) ≤ (k : Int)) = true := decide_eq_true (by omega)
  have b1 : decide (T.leaves.length ≤ k) = true := decide_eq_true (by omega)
  have b2 : decide (k < T.leaves.length) = false := decide_eq_false hk
  have e3 : T.leaves.getD k leafZ = leafZ := by simp [List.getD_eq_getElem?_getD, show T.leaves.length ≤ k by omega]
  rw [b2, e3]
  clear e3 hT h hb1 hz1 hp
  go_enter Tryd.func28, Tryd.ntmps28
  go_wp2_with fail
  rw [← hW1]
  clear hW1
  refine q.out.mono ?_
  rintro e w1 ⟨rfl, rfl⟩
  go_wp2
  refine bodyPost_ret (v := .tuple #[leafV leafZ, .bool false]) ?_ rfl ⟨rfl, ?_⟩
  ·
   simp [results, Tryd.results28, go_sem, hu4, z0, z1, z2, z3, z4]
  ·
   exact below_set5 HB1.out (Nat.le_refl _) _ _ _ _ _
theorem leafInfo : (Tryd.prog.info? 36).map (fun i => (i.zero, i.size, i.bytes)) = some (some (.agg #[.bool false, .string ⟨#[]⟩, .string ⟨#[]⟩, .int .u64 0, .int .u64 0]), 5, 56) := by kernel_rfl
def cellsL : List SLeaf → List Value
 | [] => []
 | x :: l => .bool x.f0 :: .string x.f1 :: .string x.f2 :: .int .u64 x.f3.f0 :: .int .u64 x.f3.f1 :: cellsL l
theorem cellsL_len : ∀ l, (cellsL l).length = l.length * 5
 | [] => rfl
 | x :: l => by simp [cellsL, cellsL_len l]; omega
theorem cellsL_get : ∀ (l : List SLeaf) (j i : Nat) (p : SLeaf), l[j]? = some p → i < 5 → (cellsL l)[j * 5 + i]? = [Value.bool p.f0, .string p.f1, .string p.f2, .int .u64 p.f3.f0, .int .u64 p.f3.f1][i]?
 | [], j, i, p, h, _ => by simp at h
 | x :: l, 0, i, p, h, hi => by
  obtain rfl := Option.some.inj h
  rw [cellsL, Nat.zero_mul, Nat.zero_add]
  match i, hi with
  | 0, _ => rfl
  | 1, _ => rfl
  | 2, _ => rfl
  | 3, _ => rfl
  | 4, _ => rfl
 | x :: l, j + 1, i, p, h, hi => by
  have h' : l[j]? = some p := by simpa using h
  rw [cellsL, show (j + 1) * 5 + i = (j * 5 + i) + 5 by omega]
  simp only [List.getElem?_cons_succ]
  exact cellsL_get l j i p h' hi
theorem oneL : ∀ l, ∀ u ∈ cellsL l, u.oneCell' = true
 | [], u, h => by cases h
 | x :: l, u, h => by
  simp only [cellsL, List.mem_cons] at h
  rcases h with rfl | rfl | rfl | rfl | rfl | h
  ·
   rfl
  ·
   rfl
  ·
   rfl
  ·
   rfl
  ·
   rfl
  ·
   exact oneL l u h
theorem ownLeaves_C {w : World} {base g n cap : Nat} {xs : List SLeaf} (h : w.ownsRow base 36 5 (.slice (some ⟨g, 0, none⟩) n cap) n (cellsL xs)) : xs.length = n ∧ n ≤ cap ∧ Kd.C kLeaf w (some ⟨g, 0, none⟩) n xs := by
 obtain ⟨hlen, h⟩ := h
 rw [cellsL_len] at hlen
 have hl : xs.length = n := by omega
 rcases h with ⟨h, _⟩ | ⟨g', cap', cur, hv, hb, hg, hcap, hmax, hsz, htk⟩
 ·
  cases h
 ·
  simp only [Value.slice.injEq, Option.some.injEq, Addr.mk.injEq] at hv
  obtain ⟨⟨rfl, -⟩, -, rfl⟩ := hv
  refine ⟨hl, hcap, hl, by unfold maxLen at hmax; omega, fun h0 => ⟨_, rfl, fun j p hj => ?_⟩⟩
  refine ⟨_, rfl, kLeaf_mk w p, fun i u hu => ?_⟩
  have hi : i < 5 := by
   rcases Nat.lt_or_ge i 5 with h | h
   ·
    exact h
   ·
    simp [h] at hu
  have hjn : j < xs.length := (List.getElem?_eq_some_iff.1 hj).1
  have e : kLeaf.sz = 5 := rfl
  have ea : ∀ n, (⟨g, 0, none⟩ : Addr).add n = ⟨g, n, none⟩ := fun n => by unfold Addr.add; split <;> simp_all
  rw [e, ea, blk_cell hg]
  have h1 := cellsL_get xs j i p hj hi
  rw [← htk, List.getElem?_take, if_pos (by omega)] at h1
  rw [hu] at h1
  simpa using h1
theorem leaves_news {W : World} {ad : Addr} {l : List SLeaf} (h : Kd.C kLeaf W (some ad) l.length l) : ∀ j u, (cellsL l)[j]? = some u → W.cell? (ad.add j) = some u := by
 intro j u hu
 have hj : j < l.length * 5 := by
  have := (List.getElem?_eq_some_iff.1 hu).1
  rwa [cellsL_len] at this
 obtain ⟨k, i, rfl, hi⟩ : ∃ k i, j = k * 5 + i ∧ i < 5 := ⟨j / 5, j % 5, by omega, Nat.mod_lt _ (by decide)⟩
 have hk : k < l.length := by omega
 rw [cellsL_get l k i l[k] (List.getElem?_eq_getElem hk) hi] at hu
 obtain ⟨a1, e1, p0, p1, p2, p3, p4⟩ := at_TLeaf h (k : Int) (by omega) (by omega)
 cases e1
 have e3 : rd_TLeaf l (k : Int) = l[k] := by rw [rd_TLeaf, Int.toNat_natCast]; simp [List.getD_eq_getElem?_getD, hk]
 rw [e3, Int.toNat_natCast] at p0 p1 p2 p3 p4
 match i, hi with
 | 0, _ => simp at hu; rw [← hu]; exact p0
 | 1, _ => simp at hu; rw [← hu, add_field _ _ 1 (by omega)]; exact p1
 | 2, _ => simp at hu; rw [← hu, add_field _ _ 2 (by omega)]; exact p2
 | 3, _ => simp at hu; rw [← hu, add_field _ _ 3 (by omega)]; exact p3
 | 4, _ => simp at hu; rw [← hu, add_field _ _ 4 (by omega)]; exact p4
set_option maxRecDepth 100000 in
theorem cloneL.calls (ad : Addr) (c : Nat) (l : List SLeaf) (w : World) (hr : Kd.C kLeaf w (some ad) l.length l) (hl : 1 ≤ l.length) (hm : l.length ≤ 1024) :
  Calls Tryd.prog 57 #[.slice (some ad) l.length c] w fun e w' => ∃ g cap, e = .returned (.slice (some ⟨g, 0, none⟩) l.length cap) ∧ w'.ownsRow w.heap.size 36 5 (.slice (some ⟨g, 0, none⟩) l.length cap) l.length (cellsL l) ∧ Below w.heap.size w w' ∧ g < w'.heap.size := by
 obtain ⟨i0, hi, hz0, hz1, hz2⟩ := info_parts leafInfo
 have HR := aM' hr
 have HM := aM' hm
 have HL := aM' hl
 clear hr hm hl
 have hu := Tryd.underlying22
 have qT : ∀ wx : World, (binOp .eql 22 (.slice (some ad) l.length c) (.slice none 0 0)).run Tryd.prog wx = .ok (.bool false) wx := fun wx => Lib.run_eql_slice_nil wx _ _ _ _ _ _ _ hu
 go_enter Tryd.func57, Tryd.ntmps57
 go_wp2_with (at_builtin; refine wpList_append_own _ rfl _ _ 22 rfl w.heap.size 36 i0 (.agg #[.bool false, .string ⟨#[]⟩, .string ⟨#[]⟩, .int .u64 0, .int .u64 0]) 5 56 Tryd.underlying22 hi hz0 hz1 hz2 rfl (by decide) _ 0 [] rfl (World.ownsRow_made w #[] 0 (Nat.le_refl _) (by decide) rfl) ad l.length c (cellsL l) rfl (cellsL_len l) ?c2 ?c3 ?c4 ?c5 ?c6 ?_)
 case c2 => exact leaves_news (Kd.C_below HR.out (below_alloc (Below.refl _ _) _))
 case c3 => exact oneL l
 case c4 => have := HM.out; unfold maxLen; omega
 case c5 => have := HM.out; omega
 case c6 => simp
 intro v' w' hown hgr hnil
 obtain ⟨g, cap, rfl, -, hg⟩ := hown.form HL.out
 have HO := aM' hown
 have HG := aM' hgr
 have HL2 := aM' hg
 clear hown hgr hnil hg
 go_wp2
 go_ret
 refine ⟨g, cap, rfl, HO.out, ?_, HL2.out⟩
 have hb := HG.out
 refine ⟨hb.os, hb.tape, hb.output, Nat.le_trans (by simp) hb.size, fun i hi => ?_⟩
 have h1 := hb.block i (by simp; omega) (by intro e; have := Option.some.inj e; dsimp only at this; omega)
 rw [h1]
 exact (below_alloc (Below.refl w.heap.size w) (.cells #[] 36)).block i hi
set_option maxRecDepth 100000 in
theorem tLeaves.calls (a : Nat) (T : STree) (w : World) (h : TreeR a T w) : Calls Tryd.prog 17 #[ptrT a] w fun e w' => ∃ g cap, e = .returned (.slice (some ⟨g, 0, none⟩) T.leaves.length cap) ∧ w'.ownsRow w.heap.size 36 5 (.slice (some ⟨g, 0, none⟩) T.leaves.length cap) T.leaves.length (cellsL T.leaves) ∧ Below w.heap.size w w' ∧ g < w'.heap.size := by
 have q := aM' (tNone.calls a T w h)
 obtain ⟨LA, cl, va, cv, h⟩ := h
 have hu := Tryd.underlying105
 have h2 : w.cell? ⟨a, 1, none⟩ = some (.slice LA T.leaves.length cl) := blk_cell h.box 1
 obtain ⟨ad, rfl⟩ : ∃ ad, LA = some ad := by
  obtain ⟨_, _, h3⟩ := h.lread
  obtain ⟨a, ha, _⟩ := h3 (by have := h.lmin; omega)
  exact ⟨a, ha⟩
 have HQ := aM' (cloneL.calls ad cl T.leaves w h.lread h.lmin h.lmax)
 clear h
 go_enter Tryd.func17, Tryd.ntmps17
 go_wp2_with fail
 refine q.out.mono ?_
 rintro e w1 ⟨rfl, rfl⟩
 go_wp2_with fail
 refine HQ.out.mono ?_
 rintro e w1 ⟨g, cap, rfl, h1, h2, h3⟩
 have H1 := aM' h1
 have H2 := aM' h2
 have H3 := aM' h3
 clear h1 h2 h3
 go_wp2
 go_ret
 exact ⟨g, cap, rfl, H1.out, H2.out, H3.out⟩
attribute [local go_sem] sel_true
def topI (T : STree) : SNode := (T.rows.getD (T.rows.length - 1) []).headD nodeZ
abbrev rootV (T : STree) : Value := .agg #[.string (topI T).f0, .int .u64 (topI T).f1.f0, .int .u64 (topI T).f1.f1, .int .i64 ((T.rows.length : Int) - 1)]
structure TrS (w0 W : World) (x : SNode) (l : Nat → Bool) (γ : Nat) : Prop where
 hB : Below w0.heap.size w0 W
 hg : l 12 = true → w0.heap.size ≤ γ ∧ W.heap[γ]? = some (.cells (if l 13 = true then #[.string x.f0, .int .u64 x.f1.f0, .int .u64 x.f1.f1] else #[.string ⟨#[]⟩, .int .u64 0, .int .u64 0]) 46 (0, 0))
 ho : l 13 = true → l 12 = true
theorem TrS.alloc {w0 W : World} {x : SNode} {l : Nat → Bool} {γ : Nat} (h : TrS w0 W x l γ) (hl : l 12 = false) : TrS w0 (W.alloc (.cells #[.string ⟨#[]⟩, .int .u64 0, .int .u64 0] 46 (0, 0))) x (upd l 12) W.heap.size := by
 have h13 : l 13 = false := by
  cases hx : l 13 with
  | false => rfl
  | true => rw [h.ho hx] at hl; cases hl
 have e2 : upd l 12 13 = l 13 := rfl
 refine ⟨below_alloc h.hB _, ?_, ?_⟩
 ·
  rw [e2, h13]; exact fun _ => ⟨h.hB.size, blk_new W _⟩
 ·
  exact fun _ => rfl
theorem put3z {W : World} {g : Nat} {z : SNode} (h : W.heap[g]? = some (.cells #[.string z.f0, .int .u64 z.f1.f0, .int .u64 z.f1.f1] 46 (0, 0))) (x : SNode) : (((W.setCell ⟨g, 0, none⟩ (.string x.f0)).setCell ⟨g, 1, none⟩ (.int .u64 x.f1.f0)).setCell ⟨g, 2, none⟩ (.int .u64 x.f1.f1)).heap[g]? = some (.cells #[.string x.f0, .int .u64 x.f1.f0, .int .u64 x.f1.f1] 46 (0, 0)) :=
 blk_put (cs' := #[.string x.f0, .int .u64 x.f1.f0, .int .u64 x.f1.f1]) (blk_put (cs' := #[.string x.f0, .int .u64 x.f1.f0, .int .u64 z.f1.f1]) (blk_put (cs' := #[.string x.f0, .int .u64 z.f1.f0, .int .u64 z.f1.f1]) h 0 (.string x.f0) rfl) 1 (.int .u64 x.f1.f0) rfl) 2 (.int .u64 x.f1.f1) rfl
theorem TrS.store {w0 W : World} {x : SNode} {l : Nat → Bool} {γ : Nat} (h : TrS w0 W x l γ) (ha : l 12 = true) (hl : l 13 = false) : TrS w0 (((W.setCell ⟨γ, 0, none⟩ (.string x.f0)).setCell ⟨γ, 1, none⟩ (.int .u64 x.f1.f0)).setCell ⟨γ, 2, none⟩ (.int .u64 x.f1.f1)) x (upd l 13) γ := by
 obtain ⟨h1, h2⟩ := h.hg ha
 rw [hl, if_neg (by decide)] at h2
 refine ⟨below_set (below_set (below_set h.hB h1) h1) h1, ?_, fun _ => ha⟩
 exact fun _ => ⟨h1, put3z (z := ⟨⟨#[]⟩, ⟨0, 0⟩⟩) h2 x⟩
theorem TrS.other {w0 W W' : World} {x : SNode} {l : Nat → Bool} {γ : Nat} (h : TrS w0 W x l γ) (i : Nat) (hi : i ≠ 12) (hi2 : i ≠ 13) (hb : Below W.heap.size W W') : TrS w0 W' x (upd l i) γ := by
 have e1 : upd l i 12 = l 12 := by unfold upd; rw [if_neg (fun e => hi e.symm)]
 have e2 : upd l i 13 = l 13 := by unfold upd; rw [if_neg (fun e => hi2 e.symm)]
 refine ⟨h.hB.trans (hb.mono h.hB.size), ?_, ?_⟩
 ·
  rw [e1, e2]; exact fun hl => ⟨(h.hg hl).1, blk_below (h.hg hl).2 hb⟩
 ·
  rw [e1, e2]; exact h.ho
structure TrS4 (w W1 W2 W : World) (x : SNode) (m : Int) (l : Nat → Bool) : Prop where
 hB : l 7 = false → Below W1.heap.size W1 W
 hC : l 7 = false → Below W2.heap.size W2 W
 hz : W.heap[w.heap.size]? = some (.cells (if l 7 = true then #[.string x.f0, .int .u64 x.f1.f0, .int .u64 x.f1.f1, .int .i64 m] else #[.string ⟨#[]⟩, .int .u64 0, .int .u64 0, .int .i64 0]) 41 (0, 0))
 hD : Below w.heap.size w W
 ho : l 7 = true → ∀ i, i < 7 → l i = true
theorem TrS4.no {w W1 W2 W : World} {x : SNode} {m : Int} {l : Nat → Bool} (h : TrS4 w W1 W2 W x m l) {i : Nat} (hi : i < 7) (hl : l i = false) : l 7 = false := by
 cases h7 : l 7 with
 | false => rfl
 | true => rw [h.ho h7 i hi] at hl; cases hl
theorem TrS4.other {w W1 W2 W : World} {x : SNode} {m : Int} {l : Nat → Bool} (h : TrS4 w W1 W2 W x m l) (i : Nat) (hi : i < 7) (hl : l i = false) : TrS4 w W1 W2 W x m (upd l i) := by
 have h7 := h.no hi hl
 have e : upd l i 7 = l 7 := by unfold upd; rw [if_neg (by omega)]
 refine ⟨fun _ => h.hB h7, fun _ => h.hC h7, by rw [e]; exact h.hz, h.hD, fun h' => by rw [e, h7] at h'; cases h'⟩
theorem TrS4.store {w W1 W2 W : World} {x : SNode} {m : Int} {l : Nat → Bool} (h : TrS4 w W1 W2 W x m l) (h7 : l 7 = false) (ha : ∀ i, i < 7 → l i = true) :
  TrS4 w W1 W2 ((((W.setCell ⟨w.heap.size, 0, none⟩ (.string x.f0)).setCell ⟨w.heap.size, 1, none⟩ (.int .u64 x.f1.f0)).setCell ⟨w.heap.size, 2, none⟩ (.int .u64 x.f1.f1)).setCell ⟨w.heap.size, 3, none⟩ (.int .i64 m)) x m (upd l 7) := by
 have hz := h.hz
 rw [h7, if_neg (by decide)] at hz
 have e : upd l 7 7 = true := rfl
 refine ⟨(fun h' => by rw [e] at h'; cases h'), (fun h' => by rw [e] at h'; cases h'), ?_, below_set (below_set (below_set (below_set h.hD (Nat.le_refl _)) (Nat.le_refl _)) (Nat.le_refl _)) (Nat.le_refl _), fun _ i hi => by unfold upd; rw [if_neg (by omega)]; exact ha i hi⟩
 rw [e, if_pos rfl]
 exact blk_put (cs' := #[.string x.f0, .int .u64 x.f1.f0, .int .u64 x.f1.f1, .int .i64 m]) (blk_put (cs' := #[.string x.f0, .int .u64 x.f1.f0, .int .u64 x.f1.f1, .int .i64 0]) (blk_put (cs' := #[.string x.f0, .int .u64 x.f1.f0, .int .u64 0, .int .i64 0]) (blk_put (cs' := #[.string x.f0, .int .u64 0, .int .u64 0, .int .i64 0]) hz 0 (.string x.f0) rfl) 1 (.int .u64 x.f1.f0) rfl) 2 (.int .u64 x.f1.f1) rfl) 3 (.int .i64 m) rfl
set_option maxRecDepth 100000 in
set_option maxHeartbeats 1000000 in
theorem tRoot.calls (gt : Nat) (T : STree) (w : World) (h : TreeR gt T w) : Calls Tryd.prog 21 #[ptrT gt] w fun e w' => e = .returned (rootV T) ∧ Below w.heap.size w w' := by
 have hu := Tryd.underlying105
 have hu2 := Tryd.underlying109
 have hu3 := Tryd.underlying107
 have hu4 := Tryd.underlying46
 have hu5 := Tryd.underlying41
 have hT := h
 obtain ⟨W1, hW1⟩ : ∃ V, V = w.alloc (.cells #[.string ⟨#[]⟩, .int .u64 0, .int .u64 0, .int .i64 0] 41) := ⟨_, rfl⟩
 have hb1 : Below w.heap.size w W1 := by rw [hW1]; exact below_alloc (Below.refl _ _) _
 have hz1 : W1.heap[w.heap.size]? = some (.cells #[.string ⟨#[]⟩, .int .u64 0, .int .u64 0, .int .i64 0] 41 (0, 0)) := by rw [hW1]; exact blk_new _ _
 have h1 := h.below hb1
 have HT1 := aM' h1
 have HB1 := aM' hb1
 have HZ1 := aM' hz1
 obtain ⟨LA, cl, va, cv, hA⟩ := h1
 have hv1 := hA.vmin
 have hv2 := hA.vmax
 obtain ⟨ra, rc, c0, -, hrc, hrd, hl1, hl2⟩ := hA.rows (T.rows.length - 1) (by omega)
 have hbx := blk_cell hA.box 2
 obtain ⟨m, hm⟩ : ∃ m, T.rows.length = m + 1 := ⟨T.rows.length - 1, by omega⟩
 have ht : topI T = (T.rows[T.rows.length - 1]'(by omega)).headD nodeZ := by unfold topI; congr 1; simp [List.getD_eq_getElem?_getD, show T.rows.length - 1 < T.rows.length by omega]
 generalize T.rows[T.rows.length - 1]'(by omega) = lr at c0 hrc hrd hl1 hl2 ht
 rw [hm, Nat.add_sub_cancel] at c0
 rw [hm] at hbx hv2
 simp at hbx
 unfold rootV
 generalize topI T = x at ht ⊢
 have hm1 : ((T.rows.length : Int) - 1) = (m : Int) := by omega
 rw [hm1]
 obtain ⟨a1, e1, p0, p1, p2⟩ := at_TNode hrd 0 (by omega) (by omega)
 cases e1
 have e3 : rd_TNode lr 0 = x := by rw [ht]; cases lr with | nil => rfl | cons y l => rfl
 rw [e3] at p0 p1 p2
 have ea : ra.add (Int.toNat 0 * 3) = ra := by cases ra; simp [Addr.add]
 rw [ea] at p0 p1 p2
 have HC0 := aM' c0
 have HBX := aM' hbx
 have HP := aM' (And.intro p0 (And.intro p1 p2))
 have HH : Aside0 (∀ W : World, Below W1.heap.size W1 W → Calls Tryd.prog 19 #[ptrT gt] W fun e w' => e = .returned (.int .i64 (m : Int)) ∧ W = w') := ⟨fun W hb => by
  have q := tHeight.calls gt T W (HT1.out.below hb)
  rw [hm1] at q
  exact q⟩
 have q := aM' (tNone.calls gt T W1 HT1.out)
 generalize hL : lr.length = L at *
 clear h hT hb1 hz1 hA c0 hbx p0 p1 p2 hrd e3 ht hm1 hm hv1
 go_enter Tryd.func21, Tryd.ntmps21
 go_wp2_with fail
 rw [← hW1]
 clear hW1
 refine q.out.mono ?_
 rintro e w1 ⟨rfl, rfl⟩
 go_upto_region 3 with (fail)
 refine region_inv (fun l a W => ∃ γ : Nat, a = ({ tmps := #[ptrT gt, undef, .pointer (some ⟨w.heap.size, 0, none⟩), sel (l 12) (.pointer (some ⟨γ, 0, none⟩)) (undef), ptrT gt, .bool false, undef, sel (l 0) (ptrT gt) (undef), sel (l 1) (ptrT gt) (undef), sel (l 2) (.pointer (some ⟨gt, 2, none⟩)) (undef), sel (l 3) (.slice (some va) (m + 1) cv) (undef), sel (l 4) (ptrT gt) (undef), sel (l 5) (.int .i64 (m : Int)) (undef), sel (l 6) (.pointer (some (va.add (m * 2)))) (undef), sel (l 7) (.pointer (some (va.add (m * 2)))) (undef), sel (l 8) (.pointer (some (va.add (m * 2)))) (undef), sel (l 9) (.slice (some ra) L rc) (undef), sel (l 10) (.pointer (some ra)) (undef), sel (l 11) (.agg #[.string x.f0, .int .u64 x.f1.f0, .int .u64 x.f1.f1]) (undef), undef, undef, undef, undef, undef, undef, undef], defers := [] } : Act) ∧ TrS W1 W x l γ) 14 rfl rfl (by kernel_rfl) ?h0 ?hend ?hstep
 case h0 => exact ⟨0, rfl, below_drew (Below.refl _ _), (fun h => by cases h), (fun h => by cases h)⟩
 case hstep =>
  refine rg_cons (rg_cons (rg_cons (rg_cons (rg_cons (rg_cons (rg_cons (rg_cons (rg_cons (rg_cons (rg_cons (rg_cons (rg_cons (rg_cons (rg_nil) ?s0) ?s1) ?s2) ?s3) ?s4) ?s5) ?s6) ?s7) ?s8) ?s9) ?s10) ?s11) ?s12) ?s13
  case s0 =>
   refine rg_step rfl ?_
   rintro l a W ⟨γ, rfl, hI⟩ hl hd
   clear hd
   refine rg_val (v := ptrT gt) (w' := W) rfl (by go_simp) ?_
   refine ⟨γ, ?_, ?_⟩
   ·
    simp only [Act.put, List.setIfInBounds_toArray, List.set_cons_zero, List.set_cons_succ]; rfl
   ·
    exact hI.other 0 (by decide) (by decide) (Below.refl _ _)
  case s1 =>
   refine rg_step rfl ?_
   rintro l a W ⟨γ, rfl, hI⟩ hl hd
   have d0 := hd 0 (by decide)
   clear hd
   refine rg_val (v := ptrT gt) (w' := W) rfl (by go_simp) ?_
   refine ⟨γ, ?_, ?_⟩
   ·
    simp only [Act.put, List.setIfInBounds_toArray, List.set_cons_zero, List.set_cons_succ]; rfl
   ·
    exact hI.other 1 (by decide) (by decide) (Below.refl _ _)
  case s2 =>
   refine rg_step rfl ?_
   rintro l a W ⟨γ, rfl, hI⟩ hl hd
   have d1 := hd 1 (by decide)
   clear hd
   refine rg_val (v := .pointer (some ⟨gt, 2, none⟩)) (w' := W) rfl (by go_simp) ?_
   refine ⟨γ, ?_, ?_⟩
   ·
    simp only [Act.put, List.setIfInBounds_toArray, List.set_cons_zero, List.set_cons_succ]; rfl
   ·
    exact hI.other 2 (by decide) (by decide) (Below.refl _ _)
  case s3 =>
   refine rg_step rfl ?_
   rintro l a W ⟨γ, rfl, hI⟩ hl hd
   have d2 := hd 2 (by decide)
   clear hd
   have x0 := pw_cell_below hI.hB HBX.out
   refine rg_val (v := .slice (some va) (m + 1) cv) (w' := W) rfl (by go_simp) ?_
   refine ⟨γ, ?_, ?_⟩
   ·
    simp only [Act.put, List.setIfInBounds_toArray, List.set_cons_zero, List.set_cons_succ]; rfl
   ·
    exact hI.other 3 (by decide) (by decide) (Below.refl _ _)
  case s4 =>
   refine rg_step rfl ?_
   rintro l a W ⟨γ, rfl, hI⟩ hl hd
   clear hd
   refine rg_val (v := ptrT gt) (w' := W) rfl (by go_simp) ?_
   refine ⟨γ, ?_, ?_⟩
   ·
    simp only [Act.put, List.setIfInBounds_toArray, List.set_cons_zero, List.set_cons_succ]; rfl
   ·
    exact hI.other 4 (by decide) (by decide) (Below.refl _ _)
  case s5 =>
   refine rg_step rfl ?_
   rintro l a W ⟨γ, rfl, hI⟩ hl hd
   have d4 := hd 4 (by decide)
   clear hd
   refine rg_call rfl (by go_simp; exact ⟨rfl, rfl⟩) ?_
   refine (HH.out W hI.hB).mono ?_
   rintro x W' ⟨rfl, rfl⟩
   refine ⟨_, rfl, γ, ?_, ?_⟩
   ·
    simp only [Act.put, List.setIfInBounds_toArray, List.set_cons_zero, List.set_cons_succ]; rfl
   ·
    exact hI.other 5 (by decide) (by decide) (Below.refl _ _)
  case s6 =>
   refine rg_step rfl ?_
   rintro l a W ⟨γ, rfl, hI⟩ hl hd
   have d3 := hd 3 (by decide)
   have d5 := hd 5 (by decide)
   clear hd
   refine rg_val (v := .pointer (some (va.add (m * 2)))) (w' := W) rfl (by go_simp; intro h; omega) ?_
   refine ⟨γ, ?_, ?_⟩
   ·
    simp only [Act.put, List.setIfInBounds_toArray, List.set_cons_zero, List.set_cons_succ]; rfl
   ·
    exact hI.other 6 (by decide) (by decide) (Below.refl _ _)
  case s7 =>
   refine rg_step rfl ?_
   rintro l a W ⟨γ, rfl, hI⟩ hl hd
   have d6 := hd 6 (by decide)
   clear hd
   refine rg_val (v := .pointer (some (va.add (m * 2)))) (w' := W) rfl (by go_simp) ?_
   refine ⟨γ, ?_, ?_⟩
   ·
    simp only [Act.put, List.setIfInBounds_toArray, List.set_cons_zero, List.set_cons_succ]; rfl
   ·
    exact hI.other 7 (by decide) (by decide) (Below.refl _ _)
  case s8 =>
   refine rg_step rfl ?_
   rintro l a W ⟨γ, rfl, hI⟩ hl hd
   have d7 := hd 7 (by decide)
   clear hd
   refine rg_val (v := .pointer (some (va.add (m * 2)))) (w' := W) rfl (by go_simp) ?_
   refine ⟨γ, ?_, ?_⟩
   ·
    simp only [Act.put, List.setIfInBounds_toArray, List.set_cons_zero, List.set_cons_succ]; rfl
   ·
    exact hI.other 8 (by decide) (by decide) (Below.refl _ _)
  case s9 =>
   refine rg_step rfl ?_
   rintro l a W ⟨γ, rfl, hI⟩ hl hd
   have d8 := hd 8 (by decide)
   clear hd
   have x0 := pw_cell_below hI.hB HC0.out
   refine rg_val (v := .slice (some ra) L rc) (w' := W) rfl (by go_simp) ?_
   refine ⟨γ, ?_, ?_⟩
   ·
    simp only [Act.put, List.setIfInBounds_toArray, List.set_cons_zero, List.set_cons_succ]; rfl
   ·
    exact hI.other 9 (by decide) (by decide) (Below.refl _ _)
  case s10 =>
   refine rg_step rfl ?_
   rintro l a W ⟨γ, rfl, hI⟩ hl hd
   have d9 := hd 9 (by decide)
   clear hd
   refine rg_val (v := .pointer (some ra)) (w' := W) rfl (by go_simp; intro h; omega) ?_
   refine ⟨γ, ?_, ?_⟩
   ·
    simp only [Act.put, List.setIfInBounds_toArray, List.set_cons_zero, List.set_cons_succ]; rfl
   ·
    exact hI.other 10 (by decide) (by decide) (Below.refl _ _)
  case s11 =>
   refine rg_step rfl ?_
   rintro l a W ⟨γ, rfl, hI⟩ hl hd
   have d10 := hd 10 (by decide)
   clear hd
   have x0 := pw_cell_below hI.hB HP.out.1
   have x1 := pw_cell_below hI.hB HP.out.2.1
   have x2 := pw_cell_below hI.hB HP.out.2.2
   refine rg_val (v := .agg #[.string x.f0, .int .u64 x.f1.f0, .int .u64 x.f1.f1]) (w' := W) rfl (by go_simp) ?_
   refine ⟨γ, ?_, ?_⟩
   ·
    simp only [Act.put, List.setIfInBounds_toArray, List.set_cons_zero, List.set_cons_succ]; rfl
   ·
    exact hI.other 11 (by decide) (by decide) (Below.refl _ _)
  case s12 =>
   refine rg_step rfl ?_
   rintro l a W ⟨γ, rfl, hI⟩ hl hd
   clear hd
   refine rg_val (v := .pointer (some ⟨W.heap.size, 0, none⟩)) (w' := W.alloc (.cells #[.string ⟨#[]⟩, .int .u64 0, .int .u64 0] 46 (0, 0))) rfl (by go_simp) ?_
   refine ⟨W.heap.size, ?_, ?_⟩
   ·
    simp only [Act.put, List.setIfInBounds_toArray, List.set_cons_zero, List.set_cons_succ]; rfl
   ·
    exact hI.alloc hl
  case s13 =>
   refine rg_step rfl ?_
   rintro l a W ⟨γ, rfl, hI⟩ hl hd
   have d11 := hd 11 (by decide)
   have d12 := hd 12 (by decide)
   clear hd
   have hg := (hI.hg d12).2
   rw [show l 13 = false from hl, if_neg (by decide)] at hg
   have y0 := blk_cell hg 0
   have y1 := blk_cell hg 1
   have y2 := blk_cell hg 2
   have yf := fun i => blk_frozen hg i
   simp at y0 y1 y2
   refine rg_skip rfl (by go_simp; rfl) ?_
   refine ⟨γ, ?_, ?_⟩
   ·
    simp only [Act.put, List.setIfInBounds_toArray, List.set_cons_zero, List.set_cons_succ]; rfl
   ·
    exact hI.store d12 hl
 case hend =>
  rintro l a W ⟨γ, rfl, hI⟩ hall
  have e0 := hall 0 (by decide)
  have e1 := hall 1 (by decide)
  have e2 := hall 2 (by decide)
  have e3 := hall 3 (by decide)
  have e4 := hall 4 (by decide)
  have e5 := hall 5 (by decide)
  have e6 := hall 6 (by decide)
  have e7 := hall 7 (by decide)
  have e8 := hall 8 (by decide)
  have e9 := hall 9 (by decide)
  have e10 := hall 10 (by decide)
  have e11 := hall 11 (by decide)
  have e12 := hall 12 (by decide)
  have e13 := hall 13 (by decide)
  clear hall
  have hn := hI.hg e12
  rw [if_pos e13] at hn
  obtain ⟨hn0, hn1⟩ := hn
  simp only [e0, e1, e2, e3, e4, e5, e6, e7, e8, e9, e10, e11, e12, e13, sel_true]
  clear e0 e1 e2 e3 e4 e5 e6 e7 e8 e9 e10 e11 e12 e13
  have hB2 := hI.hB
  have HN := aM' hn1
  have HN0 := aM' hn0
  have HB2 := aM' hB2
  clear hI hn0 hn1 hB2
  go_upto_region 4 with (fail)
  obtain ⟨W2, rfl⟩ : ∃ V, V = W := ⟨_, rfl⟩
  refine region_inv (fun l a W => a = ({ tmps := #[ptrT gt, undef, .pointer (some ⟨w.heap.size, 0, none⟩), .pointer (some ⟨γ, 0, none⟩), ptrT gt, .bool false, undef, ptrT gt, ptrT gt, .pointer (some ⟨gt, 2, none⟩), .slice (some va) (m + 1) cv, ptrT gt, .int .i64 (m : Int), .pointer (some (va.add (m * 2))), .pointer (some (va.add (m * 2))), .pointer (some (va.add (m * 2))), .slice (some ra) L rc, .pointer (some ra), .agg #[.string x.f0, .int .u64 x.f1.f0, .int .u64 x.f1.f1], sel (l 0) (.pointer (some ⟨γ, 0, none⟩)) (undef), sel (l 1) (.string x.f0) (undef), sel (l 2) (.pointer (some ⟨γ, 1, none⟩)) (undef), sel (l 3) (.agg #[.int .u64 x.f1.f0, .int .u64 x.f1.f1]) (undef), sel (l 4) (ptrT gt) (undef), sel (l 5) (.int .i64 (m : Int)) (undef), sel (l 6) (.agg #[.string x.f0, .int .u64 x.f1.f0, .int .u64 x.f1.f1, .int .i64 (m : Int)]) (undef)], defers := [] } : Act) ∧ TrS4 w W1 W2 W x (m : Int) l) 8 rfl rfl (by kernel_rfl) ?h0 ?hend ?hstep
  case h0 => exact ⟨rfl, ⟨fun _ => HB2.out.trans ((below_drew (Below.refl _ _)).mono HB2.out.size), fun _ => below_drew (Below.refl _ _), by rw [if_neg (by decide)]; exact blk_below HZ1.out (HB2.out.trans ((below_drew (Below.refl _ _)).mono HB2.out.size)), HB1.out.trans ((HB2.out.trans ((below_drew (Below.refl _ _)).mono HB2.out.size)).mono HB1.out.size), fun h => by cases h⟩⟩
  case hstep =>
   refine rg_cons (rg_cons (rg_cons (rg_cons (rg_cons (rg_cons (rg_cons (rg_cons (rg_nil) ?s0) ?s1) ?s2) ?s3) ?s4) ?s5) ?s6) ?s7
   case s0 =>
    refine rg_step rfl ?_
    rintro l a W ⟨rfl, hI⟩ hl hd
    clear hd
    refine rg_val (v := .pointer (some ⟨γ, 0, none⟩)) (w' := W) rfl (by go_simp) ?_
    refine ⟨?_, ?_⟩
    ·
     simp only [Act.put, List.setIfInBounds_toArray, List.set_cons_zero, List.set_cons_succ]; rfl
    ·
     exact hI.other 0 (by decide) hl
   case s1 =>
    refine rg_step rfl ?_
    rintro l a W ⟨rfl, hI⟩ hl hd
    have d0 := hd 0 (by decide)
    clear hd
    have hb := hI.hC (hI.no (show 1 < 7 by decide) hl)
    have y0 := blk_cell (blk_below HN.out hb) 0
    have y1 := blk_cell (blk_below HN.out hb) 1
    have y2 := blk_cell (blk_below HN.out hb) 2
    simp at y0 y1 y2
    refine rg_val (v := .string x.f0) (w' := W) rfl (by go_simp) ?_
    refine ⟨?_, ?_⟩
    ·
     simp only [Act.put, List.setIfInBounds_toArray, List.set_cons_zero, List.set_cons_succ]; rfl
    ·
     exact hI.other 1 (by decide) hl
   case s2 =>
    refine rg_step rfl ?_
    rintro l a W ⟨rfl, hI⟩ hl hd
    clear hd
    refine rg_val (v := .pointer (some ⟨γ, 1, none⟩)) (w' := W) rfl (by go_simp) ?_
    refine ⟨?_, ?_⟩
    ·
     simp only [Act.put, List.setIfInBounds_toArray, List.set_cons_zero, List.set_cons_succ]; rfl
    ·
     exact hI.other 2 (by decide) hl
   case s3 =>
    refine rg_step rfl ?_
    rintro l a W ⟨rfl, hI⟩ hl hd
    have d2 := hd 2 (by decide)
    clear hd
    have hb := hI.hC (hI.no (show 3 < 7 by decide) hl)
    have y0 := blk_cell (blk_below HN.out hb) 0
    have y1 := blk_cell (blk_below HN.out hb) 1
    have y2 := blk_cell (blk_below HN.out hb) 2
    simp at y0 y1 y2
    refine rg_val (v := .agg #[.int .u64 x.f1.f0, .int .u64 x.f1.f1]) (w' := W) rfl (by go_simp) ?_
    refine ⟨?_, ?_⟩
    ·
     simp only [Act.put, List.setIfInBounds_toArray, List.set_cons_zero, List.set_cons_succ]; rfl
    ·
     exact hI.other 3 (by decide) hl
   case s4 =>
    refine rg_step rfl ?_
    rintro l a W ⟨rfl, hI⟩ hl hd
    clear hd
    refine rg_val (v := ptrT gt) (w' := W) rfl (by go_simp) ?_
    refine ⟨?_, ?_⟩
    ·
     simp only [Act.put, List.setIfInBounds_toArray, List.set_cons_zero, List.set_cons_succ]; rfl
    ·
     exact hI.other 4 (by decide) hl
   case s5 =>
    refine rg_step rfl ?_
    rintro l a W ⟨rfl, hI⟩ hl hd
    have d4 := hd 4 (by decide)
    clear hd
    refine rg_call rfl (by go_simp; exact ⟨rfl, rfl⟩) ?_
    refine (HH.out W (hI.hB (hI.no (show 5 < 7 by decide) hl))).mono ?_
    rintro x W' ⟨rfl, rfl⟩
    refine ⟨_, rfl, ?_, ?_⟩
    ·
     simp only [Act.put, List.setIfInBounds_toArray, List.set_cons_zero, List.set_cons_succ]; rfl
    ·
     exact hI.other 5 (by decide) hl
   case s6 =>
    refine rg_step rfl ?_
    rintro l a W ⟨rfl, hI⟩ hl hd
    have d1 := hd 1 (by decide)
    have d3 := hd 3 (by decide)
    have d5 := hd 5 (by decide)
    clear hd
    refine rg_val (v := .agg #[.string x.f0, .int .u64 x.f1.f0, .int .u64 x.f1.f1, .int .i64 (m : Int)]) (w' := W) rfl (by go_simp) ?_
    refine ⟨?_, ?_⟩
    ·
     simp only [Act.put, List.setIfInBounds_toArray, List.set_cons_zero, List.set_cons_succ]; rfl
    ·
     exact hI.other 6 (by decide) hl
   case s7 =>
    refine rg_step rfl ?_
    rintro l a W ⟨rfl, hI⟩ hl hd
    have d0 := hd 0 (by decide)
    have d1 := hd 1 (by decide)
    have d2 := hd 2 (by decide)
    have d3 := hd 3 (by decide)
    have d4 := hd 4 (by decide)
    have d5 := hd 5 (by decide)
    have d6 := hd 6 (by decide)
    clear hd
    have hz := hI.hz
    rw [show l 7 = false from hl, if_neg (by decide)] at hz
    have z0 := blk_cell hz 0
    have z1 := blk_cell hz 1
    have z2 := blk_cell hz 2
    have z3 := blk_cell hz 3
    have zf := fun i => blk_frozen hz i
    simp at z0 z1 z2 z3
    refine rg_skip rfl (by go_simp; rfl) ?_
    refine ⟨?_, ?_⟩
    ·
     simp only [Act.put, List.setIfInBounds_toArray, List.set_cons_zero, List.set_cons_succ]; rfl
    ·
     exact hI.store hl (fun i hi => by match i, hi with | 0, _ => exact d0 | 1, _ => exact d1 | 2, _ => exact d2 | 3, _ => exact d3 | 4, _ => exact d4 | 5, _ => exact d5 | 6, _ => exact d6)
  case hend =>
   rintro l a W ⟨rfl, hI⟩ hall
   have e0 := hall 0 (by decide)
   have e1 := hall 1 (by decide)
   have e2 := hall 2 (by decide)
   have e3 := hall 3 (by decide)
   have e4 := hall 4 (by decide)
   have e5 := hall 5 (by decide)
   have e6 := hall 6 (by decide)
   have e7 := hall 7 (by decide)
   clear hall
   have hx7 := e7
   simp only [e0, e1, e2, e3, e4, e5, e6, e7, sel_true]
   clear e0 e1 e2 e3 e4 e5 e6 e7
   have hz := hI.hz
   rw [if_pos hx7] at hz
   have z0 := blk_cell hz 0
   have z1 := blk_cell hz 1
   have z2 := blk_cell hz 2
   have z3 := blk_cell hz 3
   simp at z0 z1 z2 z3
   have HBF := aM' hI.hD
   clear hI hz hx7
   go_wp2
   refine bodyPost_ret (v := .agg #[.string x.f0, .int .u64 x.f1.f0, .int .u64 x.f1.f1, .int .i64 (m : Int)]) ?_ rfl ⟨rfl, HBF.out⟩
   simp [results, Tryd.results21, go_sem, hu5, z0, z1, z2, z3]
end Go.Proofs.YtfcodmdckcihmaaDoor.P
namespace Go.Proofs.YtfcodmdckcihmaaDoor.P
open Go.RowKit Go.Proofs.YtfcodmdckcihmaaDoorW.PrintWords Go.Proofs.YtfcodmdckcihmaaDoorW.PrintLast Go.Proofs.YtfcodmdckcihmaaDoorW.PrintMore
set_option linter.unusedVariables false
set_option linter.unusedSimpArgs false
set_option linter.unnecessarySimpa false
def valU (u : SU128) : Int := u.f0 * 18446744073709551616 + u.f1
def totL : List SNode → Int
 | [] => 0
 | n :: l => valU n.f1 + totL l
theorem totL_append : ∀ a b : List SNode, totL (a ++ b) = totL a + totL b
 | [], b => by simp [totL]
 | n :: a, b => by rw [List.cons_append, totL, totL, totL_append a b]; omega
structure NodeK (w : Int) (n : SNode) : Prop where
 of : nodeOf w n = true
 u : OkU n.f1
theorem valU_nn {u : SU128} (h : OkU u) : 0 ≤ valU u := by have := h.h0; have := h.h1; unfold valU; omega
theorem valU_lt {u : SU128} (h : OkU u) : valU u < 340282366920938463463374607431768211456 := by have := h.h0; have := h.h1; unfold valU; omega
theorem totL_nn {w : Int} : ∀ {l : List SNode}, (∀ x ∈ l, NodeK w x) → 0 ≤ totL l
 | [], _ => by simp [totL]
 | n :: l, h => by
  have h1 := valU_nn (h n (List.mem_cons_self ..)).u
  have h2 := totL_nn (l := l) fun x hx => h x (List.mem_cons_of_mem _ hx)
  rw [totL]; omega
def joinV (w : Int) (l r : SNode) : SNode := ⟨dgI w (nodeText l r), ⟨l.f1.f0 + r.f1.f0 + (l.f1.f1 + r.f1.f1) / 18446744073709551616, (l.f1.f1 + r.f1.f1) % 18446744073709551616⟩⟩
theorem joinV_val (w : Int) (l r : SNode) : valU (joinV w l r).f1 = valU l.f1 + valU r.f1 := by unfold joinV valU; dsimp only; omega
theorem joinV_k {w : Int} {l r : SNode} (hl : NodeK w l) (hr : NodeK w r) (h : valU l.f1 + valU r.f1 < 340282366920938463463374607431768211456) : NodeK w (joinV w l r) := by
 obtain ⟨w1, w2, _⟩ := nodeOf_w hl.of
 refine ⟨?_, ?_⟩
 ·
  have e : ((joinV w l r).f0.size : Int) = w := by show ((dgI w (nodeText l r)).size : Int) = w; rw [dgI_size _ _ (by omega) w2]; omega
  simp [nodeOf, e, w1, w2]
 ·
  have h1 := hl.u.h0; have h2 := hl.u.h1; have h3 := hr.u.h0; have h4 := hr.u.h1
  unfold valU at h
  unfold joinV
  exact ⟨by dsimp only; omega, by dsimp only; omega⟩
theorem joinI_room {w : Int} {l r : SNode} (hl : NodeK w l) (hr : NodeK w r) (h : valU l.f1 + valU r.f1 < 340282366920938463463374607431768211456) : joinI w l r = ((joinV w l r).f0, (joinV w l r).f1.f0, (joinV w l r).f1.f1, 0) := by
 have h2 := hl.u.h1; have h4 := hr.u.h1
 unfold valU at h
 have ha : l.f1.f0 + r.f1.f0 + (l.f1.f1 + r.f1.f1) / 18446744073709551616 < 18446744073709551616 := by omega
 unfold joinI addI128 joinV
 rw [if_pos ⟨hl.of, hr.of⟩, if_pos ha, if_pos rfl]
theorem joinI_full {w : Int} {l r : SNode} (hl : NodeK w l) (hr : NodeK w r) (h : ¬ valU l.f1 + valU r.f1 < 340282366920938463463374607431768211456) : joinI w l r = (⟨#[]⟩, 0, 0, 10) := by
 have h2 := hl.u.h1; have h4 := hr.u.h1
 unfold valU at h
 have ha : ¬ l.f1.f0 + r.f1.f0 + (l.f1.f1 + r.f1.f1) / 18446744073709551616 < 18446744073709551616 := by omega
 unfold joinI addI128
 rw [if_pos ⟨hl.of, hr.of⟩, if_neg ha, if_neg (by decide)]
def pairsV (w : Int) : List SNode → List SNode
 | a :: b :: l => joinV w a b :: pairsV w l
 | _ => []
def pairsOk : List SNode → Bool
 | a :: b :: l => decide (valU a.f1 + valU b.f1 < 340282366920938463463374607431768211456) && pairsOk l
 | _ => true
theorem pairsV_len (w : Int) : ∀ (n : Nat) (l : List SNode), l.length = 2 * n → (pairsV w l).length = n
 | 0, [], _ => rfl
 | n + 1, a :: b :: l, h => by
  rw [pairsV, List.length_cons, pairsV_len w n l (by simp at h; omega)]
theorem pairsV_tot (w : Int) : ∀ (n : Nat) (l : List SNode), l.length = 2 * n → totL (pairsV w l) = totL l
 | 0, [], _ => rfl
 | n + 1, a :: b :: l, h => by
  rw [pairsV, totL, totL, totL, pairsV_tot w n l (by simp at h; omega), joinV_val]; omega
theorem pairsV_k {w : Int} : ∀ (n : Nat) (l : List SNode), l.length = 2 * n → (∀ x ∈ l, NodeK w x) → pairsOk l = true → ∀ x ∈ pairsV w l, NodeK w x
 | 0, [], _, _, _, x, hx => by simp [pairsV] at hx
 | n + 1, a :: b :: l, h, hk, ho, x, hx => by
  simp only [pairsOk, Bool.and_eq_true, decide_eq_true_eq] at ho
  rw [pairsV] at hx
  rcases List.mem_cons.1 hx with rfl | hx
  ·
   exact joinV_k (hk a (by simp)) (hk b (by simp)) ho.1
  ·
   exact pairsV_k n l (by simp at h; omega) (fun y hy => hk y (by simp [hy])) ho.2 x hx
theorem pairsOk_tot {w : Int} : ∀ (n : Nat) (l : List SNode), l.length = 2 * n → (∀ x ∈ l, NodeK w x) → pairsOk l = false → ¬ totL l < 340282366920938463463374607431768211456
 | 0, [], _, _, h => by simp [pairsOk] at h
 | n + 1, a :: b :: l, h, hk, ho => by
  have ha := valU_nn (hk a (by simp)).u
  have hb := valU_nn (hk b (by simp)).u
  have hl : 0 ≤ totL l := totL_nn fun y hy => hk y (by simp [hy])
  rw [totL, totL]
  by_cases h1 : valU a.f1 + valU b.f1 < 340282366920938463463374607431768211456
  ·
   have h2 : pairsOk l = false := by simpa [pairsOk, h1] using ho
   have := pairsOk_tot n l (by simp at h; omega) (fun y hy => hk y (by simp [hy])) h2
   omega
  ·
   omega
theorem pairsV_append (w : Int) : ∀ (n : Nat) (a b : List SNode), a.length = 2 * n → pairsV w (a ++ b) = pairsV w a ++ pairsV w b
 | 0, [], b, _ => rfl
 | n + 1, x :: y :: a, b, h => by
  rw [List.cons_append, List.cons_append, pairsV, pairsV, pairsV_append w n a b (by simp at h; omega)]; rfl
def zeroN : SNode := ⟨⟨#[]⟩, ⟨0, 0⟩⟩
def twoV (w : Int) (l : List SNode) (j : Nat) : SNode := joinV w (l.getD (2 * j) zeroN) (l.getD (2 * j + 1) zeroN)
def twoOk (l : List SNode) (j : Nat) : Prop := valU (l.getD (2 * j) zeroN).f1 + valU (l.getD (2 * j + 1) zeroN).f1 < 340282366920938463463374607431768211456
theorem pairsV_range (w : Int) : ∀ (n : Nat) (l : List SNode), l.length = 2 * n → pairsV w l = (List.range n).map (twoV w l)
 | 0, [], _ => rfl
 | n + 1, a :: b :: l, h => by
  rw [pairsV, pairsV_range w n l (by simp at h; omega), List.range_succ_eq_map, List.map_cons, List.map_map]
  congr 1
theorem pairsOk_range : ∀ (n : Nat) (l : List SNode), l.length = 2 * n → (pairsOk l = true ↔ ∀ j, j < n → twoOk l j)
 | 0, [], _ => by simp [pairsOk]
 | n + 1, a :: b :: l, h => by
  rw [pairsOk, Bool.and_eq_true, decide_eq_true_eq, pairsOk_range n l (by simp at h; omega)]
  constructor
  ·
   rintro ⟨h0, hr⟩ j hj
   match j, hj with
   | 0, _ => exact h0
   | j + 1, hj => exact hr j (by omega)
  ·
   intro hr
   exact ⟨hr 0 (by omega), fun j hj => hr (j + 1) (by omega)⟩
def treeV (w : Int) : Nat → List SNode → SNode
 | 0, l => l.headD zeroN
 | k + 1, l => joinV w (treeV w k (l.take (2 ^ k))) (treeV w k (l.drop (2 ^ k)))
theorem treeV_pairs (w : Int) : ∀ (k : Nat) (l : List SNode), l.length = 2 ^ (k + 1) → treeV w (k + 1) l = treeV w k (pairsV w l)
 | 0, [a, b], _ => rfl
 | k + 1, l, h => by
  have hp : 2 ^ (k + 1 + 1) = 2 * 2 ^ (k + 1) := by rw [Nat.pow_succ]; omega
  have hq : 2 ^ (k + 1) = 2 * 2 ^ k := by rw [Nat.pow_succ]; omega
  have e1 : (l.take (2 ^ (k + 1))).length = 2 ^ (k + 1) := by rw [List.length_take]; omega
  have e2 : (l.drop (2 ^ (k + 1))).length = 2 ^ (k + 1) := by rw [List.length_drop]; omega
  have e : pairsV w l = pairsV w (l.take (2 ^ (k + 1))) ++ pairsV w (l.drop (2 ^ (k + 1))) := by
   rw [← pairsV_append w (2 ^ k) _ _ (by rw [e1, hq]), List.take_append_drop]
  have e3 : (pairsV w (l.take (2 ^ (k + 1)))).length = 2 ^ k := pairsV_len w _ _ (by rw [e1, hq])
  rw [treeV, treeV_pairs w k _ e1, treeV_pairs w k _ e2, treeV, e, List.take_left' e3, List.drop_left' e3]
theorem treeV_val {w : Int} : ∀ (k : Nat) (l : List SNode), l.length = 2 ^ k → valU (treeV w k l).f1 = totL l
 | 0, [a], _ => by simp [treeV, totL]
 | k + 1, l, h => by
  have hp : 2 ^ (k + 1) = 2 * 2 ^ k := by rw [Nat.pow_succ]; omega
  rw [treeV, joinV_val, treeV_val k _ (by rw [List.length_take]; omega), treeV_val k _ (by rw [List.length_drop]; omega), ← totL_append, List.take_append_drop]
theorem treeV_k {w : Int} : ∀ (k : Nat) (l : List SNode), l.length = 2 ^ k → (∀ x ∈ l, NodeK w x) → totL l < 340282366920938463463374607431768211456 → NodeK w (treeV w k l)
 | 0, [a], _, h, _ => h a (by simp)
 | k + 1, l, h, hk, ht => by
  have hp : 2 ^ (k + 1) = 2 * 2 ^ k := by rw [Nat.pow_succ]; omega
  have k1 : ∀ x ∈ l.take (2 ^ k), NodeK w x := fun x hx => hk x (List.mem_of_mem_take hx)
  have k2 : ∀ x ∈ l.drop (2 ^ k), NodeK w x := fun x hx => hk x (List.mem_of_mem_drop hx)
  have t := totL_append (l.take (2 ^ k)) (l.drop (2 ^ k))
  rw [List.take_append_drop] at t
  have t1 := totL_nn k1
  have t2 := totL_nn k2
  have l1 : (l.take (2 ^ k)).length = 2 ^ k := by rw [List.length_take]; omega
  have l2 : (l.drop (2 ^ k)).length = 2 ^ k := by rw [List.length_drop]; omega
  rw [treeV]
  exact joinV_k (treeV_k k _ l1 k1 (by omega)) (treeV_k k _ l2 k2 (by omega)) (by rw [treeV_val k _ l1, treeV_val k _ l2]; omega)
def isPow (n : Nat) : Bool := decide (2 ^ n.log2 = n)
theorem isPow_spec {n : Nat} (h : isPow n = true) : ∃ k, n = 2 ^ k := ⟨n.log2, by unfold isPow at h; simpa using (of_decide_eq_true h).symm⟩
end Go.Proofs.YtfcodmdckcihmaaDoor.P
namespace Go.Proofs.YtfcodmdckcihmaaDoor.P
open Go.RowKit Go.Proofs.YtfcodmdckcihmaaDoorW.PrintWords Go.Proofs.YtfcodmdckcihmaaDoorW.PrintLast Go.Proofs.YtfcodmdckcihmaaDoorW.PrintMore
set_option linter.unusedVariables false
set_option linter.unusedSimpArgs false
set_option linter.unnecessarySimpa false
def levelsV (w : Int) : Nat → List SNode → List (List SNode)
 | 0, l => [l]
 | k + 1, l => l :: levelsV w k (pairsV w l)
theorem levelsV_len (w : Int) : ∀ k l, (levelsV w k l).length = k + 1
 | 0, _ => rfl
 | k + 1, l => by rw [levelsV, List.length_cons, levelsV_len w k]
def upV (w : Int) : Nat → List SNode → List SNode
 | 0, l => l
 | n + 1, l => upV w n (pairsV w l)
theorem upV_succ (w : Int) : ∀ n l, upV w (n + 1) l = pairsV w (upV w n l)
 | 0, _ => rfl
 | n + 1, l => by rw [upV, upV_succ w n]; rfl
theorem upV_len (w : Int) : ∀ (n k : Nat) (l : List SNode), l.length = 2 ^ (n + k) → (upV w n l).length = 2 ^ k
 | 0, k, l, h => by rw [Nat.zero_add] at h; exact h
 | n + 1, k, l, h => by
  rw [upV]
  refine upV_len w n k _ (pairsV_len w _ _ ?_)
  rw [h, show n + 1 + k = (n + k) + 1 by omega, Nat.pow_succ, Nat.mul_comm]
theorem levelsV_get (w : Int) : ∀ (k n : Nat) (l : List SNode), n ≤ k → (levelsV w k l)[n]? = some (upV w n l)
 | 0, 0, _, _ => rfl
 | k + 1, 0, _, _ => rfl
 | k + 1, n + 1, l, h => by
  rw [levelsV, List.getElem?_cons_succ, levelsV_get w k n _ (by omega)]; rfl
end Go.Proofs.YtfcodmdckcihmaaDoor.P
namespace Go.Proofs.YtfcodmdckcihmaaDoor.P
open Go.RowKit Go.Proofs.YtfcodmdckcihmaaDoorW.PrintWords Go.Proofs.YtfcodmdckcihmaaDoorW.PrintLast Go.Proofs.YtfcodmdckcihmaaDoorW.PrintMore
set_option linter.unusedVariables false
set_option linter.unusedSimpArgs false
set_option linter.unnecessarySimpa false
theorem up_ok {wd : Int} {K : Nat} {l : List SNode} (hl : l.length = 2 ^ K) (hk : ∀ x ∈ l, NodeK wd x) (ht : totL l < 340282366920938463463374607431768211456) : ∀ i, i ≤ K → (upV wd i l).length = 2 ^ (K - i) ∧ (∀ x ∈ upV wd i l, NodeK wd x) ∧ totL (upV wd i l) = totL l := by
 intro i
 induction i with
 | zero => intro _; exact ⟨hl, hk, rfl⟩
 | succ i ih =>
  intro hi
  obtain ⟨h1, h2, h3⟩ := ih (by omega)
  have hm : (upV wd i l).length = 2 * 2 ^ (K - (i + 1)) := by rw [h1, show K - i = (K - (i + 1)) + 1 by omega, Nat.pow_succ, Nat.mul_comm]
  have hok : pairsOk (upV wd i l) = true := by
   cases h : pairsOk (upV wd i l) with
   | true => rfl
   | false => exact absurd (by rw [h3]; exact ht) (pairsOk_tot _ _ hm h2 h)
  rw [upV_succ]
  exact ⟨pairsV_len wd _ _ hm, pairsV_k _ _ hm h2 hok, (pairsV_tot wd _ _ hm).trans h3⟩
end Go.Proofs.YtfcodmdckcihmaaDoor.P
namespace Go.Proofs.YtfcodmdckcihmaaDoor.P
open Go.RowKit Go.Proofs.YtfcodmdckcihmaaDoorW.PrintWords Go.Proofs.YtfcodmdckcihmaaDoorW.PrintLast Go.Proofs.YtfcodmdckcihmaaDoorW.PrintMore
set_option linter.unusedVariables false
set_option linter.unusedSimpArgs false
set_option linter.unnecessarySimpa false
section
variable {F : Fence} {m : Nat} {P : Program} {ops : Array Oper} {Q : Exit → Act → World → Prop}
def StepAtIn (F : Fence) (m : Nat) (P : Program) (ops : Array Oper) (Q : Exit → Act → World → Prop) (I : (Nat → Bool) → Act → World → Prop) (i : Nat) : Prop :=
 ∀ o, ops[i]? = some o → ∀ l a w, I l a w → l i = false → (∀ j ∈ rgNeeds o, l j = true) → if Region.wanted o (yielded ops a.tmps) = true then o.wpIn F m P a w (fun a' w' => I (upd l i) a' w') Q else (∀ f, o.about P w a.eval = some f → F.fn f) ∧ I (upd l i) (a.put o.dst undef) w
theorem rg_anyIn (I : (Nat → Bool) → Act → World → Prop) (hord : rgOrd ops = true) (hstep : ∀ i, i < ops.size → StepAtIn F m P ops Q I i) (hend : ∀ l a w, I l a w → (∀ i, i < ops.size → l i = true) → Q .normal a w) :
  ∀ (fuel : Nat) (arr : Array Bool) (a : Act) (w : World), arr.size = ops.size → I (fun j => arr.getD j false) a w → rgUndone ops.size (fun j => arr.getD j false) ≤ fuel → wpAnyIn F m P .any ops Q fuel arr a w := by
 have hready : ∀ arr : Array Bool, arr.size = ops.size → Region.ready .any ops arr = [] → ∀ i, i < ops.size → arr.getD i false = true := by
  intro arr hs hr i
  induction i using Nat.strongRecOn with
  | ind i ih =>
   intro hi
   cases hb : arr.getD i false with
   | true => rfl
   | false =>
    exfalso
    have ho : ops[i]? = some ops[i] := Array.getElem?_eq_getElem hi
    have hall : (rgNeeds ops[i]).all (fun j => decide (j < i)) = true := by
     have := List.all_eq_true.1 hord i (List.mem_range.2 hi)
     simp only [ho] at this
     exact this
    have hmem : i ∈ Region.ready .any ops arr := by
     unfold Region.ready
     rw [List.mem_filter]
     refine ⟨List.mem_range.2 hi, ?_⟩
     have h1 : arr.getD i true = false := by
      simp only [Array.getD_eq_getD_getElem?] at hb ⊢
      rw [Array.getElem?_eq_getElem (by omega)] at hb ⊢
      simpa using hb
     simp only [h1, Bool.not_false, Bool.true_and, ho, Option.map_some, Option.getD_some]
     rw [← Array.all_toList, List.all_eq_true]
     intro e he
     cases hbd : Region.binds .any e with
     | false => rfl
     | true =>
      have hj : e.on ∈ rgNeeds ops[i] := List.mem_map.2 ⟨e, List.mem_filter.2 ⟨he, hbd⟩, rfl⟩
      have hlt : e.on < i := by simpa using List.all_eq_true.1 hall e.on hj
      rw [ih e.on hlt (by omega)]; rfl
    rw [hr] at hmem
    exact absurd hmem (List.not_mem_nil)
 intro fuel
 induction fuel with
 | zero =>
  intro arr a w hs hI hu
  have hd := rgUndone_zero (Nat.le_zero.1 hu)
  refine ⟨?_, hend _ a w hI hd⟩
  unfold Region.ready
  rw [List.filter_eq_nil_iff]
  intro i hi
  have h1 := hd i (List.mem_range.1 hi)
  have h2 : arr.getD i true = true := by
   have hlt := List.mem_range.1 hi
   simp only [Array.getD_eq_getD_getElem?] at h1 ⊢
   rw [Array.getElem?_eq_getElem (by omega)] at h1 ⊢
   simpa using h1
  simp [h2]
 | succ fuel ih =>
  intro arr a w hs hI hu
  refine ⟨fun hr => hend _ a w hI (hready arr hs hr), fun i hi => ?_⟩
  unfold Region.ready at hi
  rw [List.mem_filter] at hi
  obtain ⟨hir, hi2⟩ := hi
  have hlt := List.mem_range.1 hir
  have ho : ops[i]? = some ops[i] := Array.getElem?_eq_getElem hlt
  simp only [ho, Option.map_some, Option.getD_some, Bool.and_eq_true, Bool.not_eq_true'] at hi2
  have hb : arr.getD i false = false := by
   have h1 := hi2.1
   simp only [Array.getD_eq_getD_getElem?] at h1 ⊢
   rw [Array.getElem?_eq_getElem (by omega)] at h1 ⊢
   simpa using h1
  have hn : ∀ j ∈ rgNeeds ops[i], arr.getD j false = true := by
   intro j hj
   obtain ⟨e, he, rfl⟩ := List.mem_map.1 hj
   obtain ⟨he1, he2⟩ := List.mem_filter.1 he
   have h3 := hi2.2
   rw [← Array.all_toList, List.all_eq_true] at h3
   have := h3 e he1
   rw [he2] at this
   simpa using this
  have hst := hstep i hlt _ ho _ a w hI hb hn
  have hK : ∀ a' w', I (upd (fun j => arr.getD j false) i) a' w' → wpAnyIn F m P .any ops Q fuel (arr.setIfInBounds i true) a' w' := by
   intro a' w' h'
   have e : (fun j => (arr.setIfInBounds i true).getD j false) = upd (fun j => arr.getD j false) i := by
    funext j
    unfold upd
    simp only [Array.getD_eq_getD_getElem?]
    by_cases e : j = i
    ·
     subst e
     rw [if_pos rfl, Array.getElem?_setIfInBounds_self_of_lt (by omega)]; rfl
    ·
     rw [if_neg e, Array.getElem?_setIfInBounds_ne (fun h => e h.symm)]
   refine ih _ a' w' (by simpa using hs) (by rw [e]; exact h') ?_
   rw [e]
   have := rgUndone_upd (l := fun j => arr.getD j false) hlt hb
   omega
  unfold wpOpIn
  rw [ho]
  dsimp only
  split
  ·
   rename_i hw
   rw [if_pos hw] at hst
   exact Oper.wpIn_mono hK hst
  ·
   rename_i hw
   rw [if_neg hw] at hst
   exact ⟨hst.1, hK _ _ hst.2⟩
theorem region_invIn {id : Nat} {a : Act} {w : World} (I : (Nat → Bool) → Act → World → Prop) (n : Nat) (hm : P.follows .mixedOrders = true) (hn : ops.size = n) (hord : rgOrd ops = true) (h0 : I (fun _ => false) a w.drew)
  (hend : ∀ l a w, I l a w → (∀ i, i < n → l i = true) → Q .normal a w) (hstep : ∀ i, i < n → StepAtIn F m P ops Q I i) : (Code.region id ops true).wpIn F m P Q a w := by
 subst hn
 refine wpIn_region_any hm (rg_anyIn I hord hstep hend ops.size _ a _ (by simp) ?_ ?_)
 ·
  have e : (fun j => (Array.replicate ops.size false).getD j false) = fun _ => false := by
   funext j
   simp only [Array.getD_eq_getD_getElem?, Array.getElem?_replicate]
   split <;> rfl
  rw [e]; exact h0
 ·
  unfold rgUndone
  have := List.countP_le_length (p := fun j => !(Array.replicate ops.size false).getD j false) (l := List.range ops.size)
  simpa using this
theorem rgi_step {I : (Nat → Bool) → Act → World → Prop} {i : Nat} {oi : Oper} (hi : ops[i]? = some oi)
  (h : ∀ l a w, I l a w → l i = false → (∀ j ∈ rgNeeds oi, l j = true) → if Region.wanted oi (yielded ops a.tmps) = true then oi.wpIn F m P a w (fun a' w' => I (upd l i) a' w') Q else (∀ f, oi.about P w a.eval = some f → F.fn f) ∧ I (upd l i) (a.put oi.dst undef) w) : StepAtIn F m P ops Q I i := by
 intro o ho
 rw [hi] at ho
 cases ho
 exact h
theorem rgi_val {K : Act → World → Prop} {oi : Oper} {a : Act} {w w' : World} {v : Value} (hF : ∀ f, F.fn f) (hw : Region.wanted oi (yielded ops a.tmps) = true) (hd : ∀ c, oi.op ≠ .defer c) (hrun : (execOp a.eval oi).run P w = .ok (.value v) w') (hK : K (a.put oi.dst v) w') :
  if Region.wanted oi (yielded ops a.tmps) = true then oi.wpIn F m P a w K Q else (∀ f, oi.about P w a.eval = some f → F.fn f) ∧ K (a.put oi.dst undef) w := by
 rw [if_pos hw]; unfold Oper.wpIn; rw [Oper.semAt_eq _ _ _ hd, hrun]; exact ⟨fun f _ => hF f, hK⟩
theorem rgi_skip {K : Act → World → Prop} {oi : Oper} {a : Act} {w w' : World} (hF : ∀ f, F.fn f) (hw : Region.wanted oi (yielded ops a.tmps) = true) (hd : ∀ c, oi.op ≠ .defer c) (hrun : (execOp a.eval oi).run P w = .ok .skip w') (hK : K (a.put oi.dst undef) w') :
  if Region.wanted oi (yielded ops a.tmps) = true then oi.wpIn F m P a w K Q else (∀ f, oi.about P w a.eval = some f → F.fn f) ∧ K (a.put oi.dst undef) w := by
 rw [if_pos hw]; unfold Oper.wpIn; rw [Oper.semAt_eq _ _ _ hd, hrun]; exact ⟨fun f _ => hF f, hK⟩
theorem rgi_call {K : Act → World → Prop} {oi : Oper} {a : Act} {w : World} {f : FuncId} {args : Array Value} (hF : ∀ f, F.fn f) (hdp : F.depth = none) (hw : Region.wanted oi (yielded ops a.tmps) = true) (hd : ∀ c, oi.op ≠ .defer c) (hrun : (execOp a.eval oi).run P w = .ok (.enter f args) w)
  (h : CallsIn F (m - 1) P f args w fun e w' => ∃ v, e = .returned v ∧ K (a.put oi.dst v) w') :
  if Region.wanted oi (yielded ops a.tmps) = true then oi.wpIn F m P a w K Q else (∀ f, oi.about P w a.eval = some f → F.fn f) ∧ K (a.put oi.dst undef) w := by
 rw [if_pos hw]; unfold Oper.wpIn; rw [Oper.semAt_eq _ _ _ hd, hrun]
 rw [Oper.uponIn_enter]
 refine And.intro (fun f _ => hF f) (And.intro (fun h => by rw [hdp] at h; cases h) ?_)
 exact h.mono fun e w' ⟨v, he, hk⟩ => by subst he; exact hk
theorem li_val {w w' : World} {rest : List Oper} {o : Oper} {a : Act} {v : Value} (hg : o.guard = none) (hF : ∀ f, F.fn f) (hd : ∀ c, o.op ≠ .defer c) (hrun : (execOp a.eval o).run P w = .ok (.value v) w') (hK : wpListIn F m P ops Q rest (a.put o.dst v) w') : wpListIn F m P ops Q (o :: rest) a w := by
 refine wpListIn_plain hg fun K hK' => ?_
 unfold Oper.wpIn; rw [Oper.semAt_eq _ _ _ hd, hrun]; exact ⟨fun f _ => hF f, hK' _ _ hK⟩
theorem li_skip {w w' : World} {rest : List Oper} {o : Oper} {a : Act} (hg : o.guard = none) (hF : ∀ f, F.fn f) (hd : ∀ c, o.op ≠ .defer c) (hrun : (execOp a.eval o).run P w = .ok .skip w') (hK : wpListIn F m P ops Q rest (a.put o.dst undef) w') : wpListIn F m P ops Q (o :: rest) a w := by
 refine wpListIn_plain hg fun K hK' => ?_
 unfold Oper.wpIn; rw [Oper.semAt_eq _ _ _ hd, hrun]; exact ⟨fun f _ => hF f, hK' _ _ hK⟩
end
end Go.Proofs.YtfcodmdckcihmaaDoor.P
namespace Go.Proofs.YtfcodmdckcihmaaDoor.P
open Go.RowKit Go.Proofs.YtfcodmdckcihmaaDoorW.PrintWords Go.Proofs.YtfcodmdckcihmaaDoorW.PrintLast Go.Proofs.YtfcodmdckcihmaaDoorW.PrintMore
set_option linter.unusedVariables false
set_option linter.unusedSimpArgs false
set_option linter.unnecessarySimpa false
attribute [local go_sem] Oper.semAt_some sel_true
theorem chunk.calls (A : Option Addr) (m c : Nat) (w : World) : Calls Tryd.prog 58 #[.slice A m c, .int .i64 2] w fun e w' => e = .returned (.func (.func 95) #[] #[.pointer (some ⟨w.heap.size, 0, none⟩), .pointer (some ⟨w.heap.size + 1, 0, none⟩)]) ∧ w' = (w.alloc (.cells #[.slice A m c] 43)).alloc (.cells #[.int .i64 2] 3) := by
 go_enter Tryd.func58, Tryd.ntmps58
 go_wp2
 go_ret
 exact ⟨rfl, rfl⟩
def chunkV (ad : Addr) (j : Nat) : Value := .slice (some (ad.add (2 * j * 3))) 2 2
theorem slice_from (ad : Addr) (M c i : Nat) (h : i < M) (hc : M ≤ c) (wx : World) : (Instr.slice 43 (.slice (some ad) M c) (some (.int .i64 i)) none none).run Tryd.prog wx = .ok (.slice (some (ad.add (i * 3))) (M - i) (c - i)) wx := by
 have h1 := run_slice_l (P := Tryd.prog) wx 43 (some ad) M c (by kernel_rfl) .i64 (i : Int) (by omega) (by omega)
 rw [h1]
 have hs : (sizeOf (Tryd.prog.elem 43)).run Tryd.prog wx = .ok 3 wx := by kernel_rfl
 rw [hs]
 simp only [Result.andThen, sliced, Int.toNat_natCast]
 rw [if_neg (by omega)]; rfl
theorem slice_two (ad : Addr) (M c i : Nat) (h : i + 2 ≤ M) (hc : M ≤ c) (wx : World) : (Instr.slice 43 (.slice (some ad) M c) (some (.int .i64 i)) (some (.int .i64 ((i : Int) + 2))) (some (.int .i64 ((i : Int) + 2)))).run Tryd.prog wx = .ok (.slice (some (ad.add (i * 3))) 2 2) wx := by
 have h1 := run_slice_lhm (P := Tryd.prog) wx 43 (some ad) M c (by kernel_rfl) .i64 .i64 .i64 (i : Int) ((i : Int) + 2) ((i : Int) + 2) (by omega) (by omega) (by omega) (by omega)
 rw [h1]
 have hs : (sizeOf (Tryd.prog.elem 43)).run Tryd.prog wx = .ok 3 wx := by kernel_rfl
 rw [hs]
 simp only [Result.andThen, sliced, Int.toNat_natCast, show ((i : Int) + 2).toNat = i + 2 by omega]
 rw [if_neg (by omega)]
 simp
set_option maxRecDepth 100000 in
set_option maxHeartbeats 1000000 in
theorem chunk1_in (n : Nat) (hn : 1 ≤ n) (lp sb nb B : Nat) (ad : Addr) (m M c : Nat) (hM : M = 2 * m) (hm : m ≤ 1000000) (hmc : M ≤ c) (S : Nat → Prop) (hSs : S sb) (hSn : S nb)
  (J Jx : List Nat → World → Prop) (hJ : AbidesFrom B J)
  (hY : ∀ j W, J (List.range j) W → j < m → YieldAt Fence.wide (n - 1) Tryd.prog lp #[chunkV ad j] W fun e W' => (e = .returned (.bool true) ∧ J (List.range (j + 1)) W' ∧ KeepS S W W') ∨ (e = .returned (.bool false) ∧ Jx (List.range (j + 1)) W'))
  (W : World) (hs : W.heap[sb]? = some (.cells #[.slice (some ad) M c] 43 (0, 0))) (hpb : W.heap[nb]? = some (.cells #[.int .i64 2] 3 (0, 0))) (h0 : J [] W) :
  CallsIn Fence.wide n Tryd.prog 95 #[.func (.yield lp) #[] #[], .pointer (some ⟨sb, 0, none⟩), .pointer (some ⟨nb, 0, none⟩)] W fun e W' => (∃ v, e = .returned v) ∧ (J (List.range m) W' ∨ ∃ j, j ≤ m ∧ Jx (List.range j) W') := by
 have HS := aM' hs
 have HP := aM' hpb
 have HJ := aM' hJ
 have HY := aM' hY
 have HM := aM' hm
 have HMC := aM' hmc
 have HMM := aM' hM
 clear hs hpb hJ hY hm hmc hM
 refine callsIn_of_wp Tryd.func95 rfl trivial ?_
 simp only [Tryd.ntmps95, List.size_toArray, List.length_cons, List.length_nil, Nat.reduceAdd, Nat.reduceSub, Array.replicate_succ, Array.replicate_zero, List.push_toArray, List.append_toArray, List.nil_append, List.cons_append]
 gi_wp2
 gi_loopw [4] (fun v wr => ∃ i j : Nat, v = .int .i64 i ∧ Aside0 (i = 2 * j ∧ j ≤ m) ∧ Aside0 (J (List.range j) wr) ∧ Aside0 (KeepS S W wr)) (fun v _ => M - (intOf v).toNat)
 case atStart => exact ⟨0, 0, rfl, ⟨rfl, Nat.zero_le _⟩, ⟨h0⟩, ⟨fun _ _ => rfl⟩⟩
 case round =>
  obtain ⟨i, j, rfl, HI, HJs, HK⟩ := hrel
  have x0 : wr.cell? ⟨sb, 0, none⟩ = some (.slice (some ad) M c) := blk_cell ((HK.out sb hSs).trans HS.out) 0
  have x1 : wr.cell? ⟨nb, 0, none⟩ = some (.int .i64 2) := blk_cell ((HK.out nb hSn).trans HP.out) 0
  by_cases hlt : j < m
  ·
   have hi2 : i + 2 ≤ M := by have := HI.out; have := HMM.out; omega
   have b1 : decide (i < M) = true := decide_eq_true (by omega)
   have s1 := fun wx => slice_from ad M c i (by omega) HMC.out wx
   have s2 := fun wx => slice_two ad M c i hi2 HMC.out wx
   have wi : wrap64 ((i : Int) + 2) = (i : Int) + 2 := by have := HMM.out; have := HM.out; exact wrap64_id (by omega) (by omega)
   have mn : min (2 : Int) ((M - i : Nat) : Int) = 2 := by omega
   obtain ⟨fn, tmps, assign, body, hy, hR⟩ := HY.out j wr.drew (HJ.out _ wr _ none HJs.out (grown_drew _) (fun r e => by cases e)) hlt
   have he : chunkV ad j = .slice (some (ad.add (i * 3))) 2 2 := by rw [HI.out.1]; rfl
   rw [he] at hy
   have hR2 := hR.mono (fun e W' h => (show ∃ b : Bool, e = .returned (.bool b) ∧ Aside0 ((b = true ∧ J (List.range (j + 1)) W' ∧ KeepS S wr.drew W') ∨ (b = false ∧ Jx (List.range (j + 1)) W')) from
    h.elim (fun h => ⟨true, h.1, ⟨.inl ⟨rfl, h.2⟩⟩⟩) (fun h => ⟨false, h.1, ⟨.inr ⟨rfl, h.2⟩⟩⟩)))
   clear hR he
   gi_wp2
   refine region_invIn (fun l a W => a = ({ tmps := #[.func (.yield lp) #[] #[], .pointer (some ⟨sb, 0, none⟩), .pointer (some ⟨nb, 0, none⟩), undef, .int .i64 (i : Int), sel (l 6) (.int .i64 2) (u5), .int .i64 (i : Int), .slice (some ad) M c, .int .i64 (M : Int), .bool true, u10, u11, u12, sel (l 0) (.int .i64 2) (u13), sel (l 1) (.slice (some ad) M c) (u14), sel (l 2) (.int .i64 (i : Int)) (u15), sel (l 3) (.slice (some (ad.add (i * 3))) (M - i) (c - i)) (u16), sel (l 4) (.int .i64 ((M - i : Nat) : Int)) (u17), sel (l 5) (.int .i64 2) (u18), u19, u20, u21, u22, u23, u24, u25, u26, u27, u28, u29, u30], defers := [] } : Act) ∧ (W = wr.drew)) 7 rfl rfl (by kernel_rfl) ?h0 ?hend ?hstep
   case h0 => exact ⟨rfl, rfl⟩
   case hstep =>
    refine rg_cons (rg_cons (rg_cons (rg_cons (rg_cons (rg_cons (rg_cons (rg_nil) ?s0) ?s1) ?s2) ?s3) ?s4) ?s5) ?s6
    case s0 =>
     refine rgi_step rfl ?_
     rintro l a W ⟨rfl, rfl⟩ hl hd
     clear hd
     refine rgi_val (v := .int .i64 2) (w' := wr.drew) (fun _ => trivial) rfl (fun _ h => by cases h) (by go_simp) ?_
     refine ⟨?_, ?_⟩
     ·
      simp only [Act.put, List.setIfInBounds_toArray, List.set_cons_zero, List.set_cons_succ]; rfl
     ·
      rfl
    case s1 =>
     refine rgi_step rfl ?_
     rintro l a W ⟨rfl, rfl⟩ hl hd
     clear hd
     refine rgi_val (v := .slice (some ad) M c) (w' := wr.drew) (fun _ => trivial) rfl (fun _ h => by cases h) (by go_simp) ?_
     refine ⟨?_, ?_⟩
     ·
      simp only [Act.put, List.setIfInBounds_toArray, List.set_cons_zero, List.set_cons_succ]; rfl
     ·
      rfl
    case s2 =>
     refine rgi_step rfl ?_
     rintro l a W ⟨rfl, rfl⟩ hl hd
     clear hd
     refine rgi_val (v := .int .i64 (i : Int)) (w' := wr.drew) (fun _ => trivial) rfl (fun _ h => by cases h) (by go_simp) ?_
     refine ⟨?_, ?_⟩
     ·
      simp only [Act.put, List.setIfInBounds_toArray, List.set_cons_zero, List.set_cons_succ]; rfl
     ·
      rfl
    case s3 =>
     refine rgi_step rfl ?_
     rintro l a W ⟨rfl, rfl⟩ hl hd
     have d1 := hd 1 (by decide)
     have d2 := hd 2 (by decide)
     clear hd
     refine rgi_val (v := .slice (some (ad.add (i * 3))) (M - i) (c - i)) (w' := wr.drew) (fun _ => trivial) rfl (fun _ h => by cases h) (by go_simp) ?_
     refine ⟨?_, ?_⟩
     ·
      simp only [Act.put, List.setIfInBounds_toArray, List.set_cons_zero, List.set_cons_succ]; rfl
     ·
      rfl
    case s4 =>
     refine rgi_step rfl ?_
     rintro l a W ⟨rfl, rfl⟩ hl hd
     have d3 := hd 3 (by decide)
     clear hd
     refine rgi_val (v := .int .i64 ((M - i : Nat) : Int)) (w' := wr.drew) (fun _ => trivial) rfl (fun _ h => by cases h) (by go_simp) ?_
     refine ⟨?_, ?_⟩
     ·
      simp only [Act.put, List.setIfInBounds_toArray, List.set_cons_zero, List.set_cons_succ]; rfl
     ·
      rfl
    case s5 =>
     refine rgi_step rfl ?_
     rintro l a W ⟨rfl, rfl⟩ hl hd
     have d0 := hd 0 (by decide)
     have d4 := hd 4 (by decide)
     clear hd
     refine rgi_val (v := .int .i64 2) (w' := wr.drew) (fun _ => trivial) rfl (fun _ h => by cases h) (by go_simp) ?_
     refine ⟨?_, ?_⟩
     ·
      simp only [Act.put, List.setIfInBounds_toArray, List.set_cons_zero, List.set_cons_succ]; rfl
     ·
      rfl
    case s6 =>
     refine rgi_step rfl ?_
     rintro l a W ⟨rfl, rfl⟩ hl hd
     have d5 := hd 5 (by decide)
     clear hd
     refine rgi_val (v := .int .i64 2) (w' := wr.drew) (fun _ => trivial) rfl (fun _ h => by cases h) (by go_simp) ?_
     refine ⟨?_, ?_⟩
     ·
      simp only [Act.put, List.setIfInBounds_toArray, List.set_cons_zero, List.set_cons_succ]; rfl
     ·
      rfl
   case hend =>
    rintro l a W ⟨rfl, rfl⟩ hall
    have e0 := hall 0 (by decide)
    have e1 := hall 1 (by decide)
    have e2 := hall 2 (by decide)
    have e3 := hall 3 (by decide)
    have e4 := hall 4 (by decide)
    have e5 := hall 5 (by decide)
    have e6 := hall 6 (by decide)
    clear hall
    simp only [e0, e1, e2, e3, e4, e5, e6, sel_true]
    clear e0 e1 e2 e3 e4 e5 e6
    gi_wp2_with fail
    refine hR2.mono ?_
    clear hR2 hy x0 x1 s1 s2 mn
    rintro e W3 ⟨b, rfl, HE⟩
    cases b with
    | true =>
     obtain ⟨-, hJ2, hK2⟩ | ⟨h, -⟩ := HE.out
     case inr => exact absurd h (by decide)
     have hK3 : KeepS S W W3 := HK.out.trans hK2
     have HK3 := aM' hK3
     have HJ2 := aM' hJ2
     have x1 : W3.cell? ⟨nb, 0, none⟩ = some (.int .i64 2) := blk_cell ((hK3 nb hSn).trans HP.out) 0
     clear hK2 hK3 hJ2 HE
     gi_wp2
     rw [wi]
     refine ⟨⟨i + 2, j + 1, by simp, ⟨by have := HI.out; omega, hlt⟩, HJ2, HK3⟩, ?_⟩
     show M - ((i : Int) + 2).toNat < M - (i : Int).toNat
     omega
    | false =>
     obtain ⟨h, -⟩ | ⟨-, hJ2⟩ := HE.out
     case inl => exact absurd h (by decide)
     have HJ2 := aM' hJ2
     clear hJ2 HE
     gi_wp2
     refine bodyPost_ret (results_none rfl _ _ _) rfl ?_
     exact ⟨⟨_, rfl⟩, .inr ⟨_, hlt, HJ2.out⟩⟩
  ·
   have b1 : decide (i < M) = false := decide_eq_false (by have := HI.out; have := HMM.out; omega)
   obtain rfl : j = m := by have := HI.out; omega
   gi_wp2
   go_end0
   exact ⟨⟨_, rfl⟩, .inl HJs.out⟩
end Go.Proofs.YtfcodmdckcihmaaDoor.P
namespace Go.Proofs.YtfcodmdckcihmaaDoor.P
open Go.RowKit Go.Proofs.YtfcodmdckcihmaaDoorW.PrintWords Go.Proofs.YtfcodmdckcihmaaDoorW.PrintLast Go.Proofs.YtfcodmdckcihmaaDoorW.PrintMore
set_option linter.unusedVariables false
set_option linter.unusedSimpArgs false
set_option linter.unnecessarySimpa false
attribute [local go_sem] Oper.semAt_some sel_true
theorem nodeInfo : (Tryd.prog.info? 46).map (fun i => (i.zero, i.size, i.bytes)) = some (some (.agg #[(.string ⟨#[]⟩), (.int .u64 0), (.int .u64 0)]), 3, 32) := by kernel_rfl
def cellsN : List SNode → List Value
  | [] => []
  | x :: l => .string x.f0 :: .int .u64 x.f1.f0 :: .int .u64 x.f1.f1 :: cellsN l
theorem cellsN_len : ∀ l, (cellsN l).length = l.length * 3
  | [] => rfl
  | x :: l => by simp [cellsN, cellsN_len l]; omega
theorem cellsN_append : ∀ a b, cellsN (a ++ b) = cellsN a ++ cellsN b
  | [], _ => rfl
  | x :: a, b => by rw [List.cons_append, cellsN, cellsN_append a b]; rfl
theorem cellsN_get : ∀ (l : List SNode) (j i : Nat) (p : SNode), l[j]? = some p → i < 3 → (cellsN l)[j * 3 + i]? = [Value.string p.f0, .int .u64 p.f1.f0, .int .u64 p.f1.f1][i]?
  | [], j, i, p, h, _ => by simp at h
  | x :: l, 0, i, p, h, hi => by
    obtain rfl := Option.some.inj h
    rw [cellsN, Nat.zero_mul, Nat.zero_add]
    match i, hi with
    | 0, _ => rfl
    | 1, _ => rfl
    | 2, _ => rfl
  | x :: l, j + 1, i, p, h, hi => by
    have h' : l[j]? = some p := by simpa using h
    rw [cellsN, show (j + 1) * 3 + i = (j * 3 + i) + 3 by omega]
    simp only [List.getElem?_cons_succ]
    exact cellsN_get l j i p h' hi
theorem addr_at (g n : Nat) : (⟨g, 0, none⟩ : Addr).add n = ⟨g, n, none⟩ := by unfold Addr.add; split <;> simp_all
theorem ownNodes_C {w : World} {base g n cap : Nat} {xs : List SNode} (h : w.ownsRow base 46 3 (.slice (some ⟨g, 0, none⟩) n cap) n (cellsN xs)) : xs.length = n ∧ n ≤ cap ∧ Kd.C kNode w (some ⟨g, 0, none⟩) n xs := by
  obtain ⟨hlen, h⟩ := h
  rw [cellsN_len] at hlen
  have hl : xs.length = n := by omega
  rcases h with ⟨h, _⟩ | ⟨g', cap', cur, hv, hb, hg, hcap, hmax, hsz, htk⟩
  · cases h
  · simp only [Value.slice.injEq, Option.some.injEq, Addr.mk.injEq] at hv
    obtain ⟨⟨rfl, -⟩, -, rfl⟩ := hv
    refine ⟨hl, hcap, hl, by unfold maxLen at hmax; omega, fun h0 => ⟨_, rfl, fun j p hj => ?_⟩⟩
    refine ⟨_, rfl, kNode_mk w p, fun i u hu => ?_⟩
    have hi : i < 3 := by
      rcases Nat.lt_or_ge i 3 with h | h
      · exact h
      · simp [h] at hu
    have hjn : j < xs.length := (List.getElem?_eq_some_iff.1 hj).1
    have e : kNode.sz = 3 := rfl
    rw [e, addr_at, blk_cell hg]
    have h1 := cellsN_get xs j i p hj hi
    rw [← htk, List.getElem?_take, if_pos (by omega)] at h1
    rw [hu] at h1
    simpa using h1
theorem two_at {W : World} {ad : Addr} {l : List SNode} (h : Kd.C kNode W (some ad) l.length l) (j : Nat) (hj : 2 * j + 1 < l.length) :
    ((W.cell? (ad.add (2 * j * 3)) = some (.string (l[2 * j]'(by omega)).f0) ∧ W.cell? ⟨(ad.add (2 * j * 3)).block, (ad.add (2 * j * 3)).off + 1, none⟩ = some (.int .u64 (l[2 * j]'(by omega)).f1.f0) ∧ W.cell? ⟨(ad.add (2 * j * 3)).block, (ad.add (2 * j * 3)).off + 2, none⟩ = some (.int .u64 (l[2 * j]'(by omega)).f1.f1)) ∧
     (W.cell? ((ad.add (2 * j * 3)).add 3) = some (.string l[2 * j + 1].f0) ∧ W.cell? ⟨((ad.add (2 * j * 3)).add 3).block, ((ad.add (2 * j * 3)).add 3).off + 1, none⟩ = some (.int .u64 l[2 * j + 1].f1.f0) ∧ W.cell? ⟨((ad.add (2 * j * 3)).add 3).block, ((ad.add (2 * j * 3)).add 3).off + 2, none⟩ = some (.int .u64 l[2 * j + 1].f1.f1))) := by
  obtain ⟨a1, e1, p0, p1, p2⟩ := at_TNode h ((2 * j : Nat) : Int) (by omega) (by omega)
  obtain ⟨a2, e2, q0, q1, q2⟩ := at_TNode h ((2 * j + 1 : Nat) : Int) (by omega) (by omega)
  cases e1; cases e2
  rw [rdNode_nat l (2 * j) (by omega), Int.toNat_natCast] at p0 p1 p2
  rw [rdNode_nat l (2 * j + 1) hj, Int.toNat_natCast] at q0 q1 q2
  have e3 : (ad.add (2 * j * 3)).add 3 = ad.add ((2 * j + 1) * 3) := by rw [Addr.add_add]; congr 1; omega
  rw [e3]
  exact ⟨⟨p0, p1, p2⟩, q0, q1, q2⟩
theorem two_at' {W : World} {ad : Addr} {l : List SNode} (h : Kd.C kNode W (some ad) l.length l) (j : Nat) (hj : 2 * j + 1 < l.length) (a b : SNode) (ha : a = l.getD (2 * j) zeroN) (hb : b = l.getD (2 * j + 1) zeroN) (ap : Addr) (hap : ap = ad.add (2 * j * 3)) :
    ((W.cell? ap = some (.string a.f0) ∧ W.cell? ⟨ap.block, ap.off + 1, none⟩ = some (.int .u64 a.f1.f0) ∧ W.cell? ⟨ap.block, ap.off + 2, none⟩ = some (.int .u64 a.f1.f1)) ∧
     (W.cell? ⟨ap.block, ap.off + 3, none⟩ = some (.string b.f0) ∧ W.cell? ⟨ap.block, ap.off + 3 + 1, none⟩ = some (.int .u64 b.f1.f0) ∧ W.cell? ⟨ap.block, ap.off + 3 + 2, none⟩ = some (.int .u64 b.f1.f1))) := by
  have h1 : l.getD (2 * j) zeroN = l[2 * j]'(by omega) := by simp [List.getD_eq_getElem?_getD, show 2 * j < l.length by omega]
  have h2 : l.getD (2 * j + 1) zeroN = l[2 * j + 1] := by simp [List.getD_eq_getElem?_getD, hj]
  subst ha hb hap
  rw [h1, h2]
  obtain ⟨p, q0, q1, q2⟩ := two_at h j hj
  have e3 : (ad.add (2 * j * 3)).add 3 = ⟨(ad.add (2 * j * 3)).block, (ad.add (2 * j * 3)).off + 3, none⟩ := rfl
  rw [e3] at q0 q1 q2
  exact ⟨p, q0, q1, q2⟩
structure Pr4 (W0 W : World) (x : SNode) (l : Nat → Bool) (γ : Nat) : Prop where
  hB : Below W0.heap.size W0 W
  hg : l 11 = true → W0.heap.size ≤ γ ∧ W.heap[γ]? = some (.cells (if l 12 = true then nodeA x else #[.string ⟨#[]⟩, .int .u64 0, .int .u64 0]) 46 (0, 0))
  ho : l 12 = true → l 11 = true
theorem Pr4.other {W0 W W' : World} {x : SNode} {l : Nat → Bool} {γ : Nat} (h : Pr4 W0 W x l γ) (i : Nat) (hi : i ≠ 11) (hi2 : i ≠ 12) (hb : Below W.heap.size W W') : Pr4 W0 W' x (upd l i) γ := by
  have e1 : upd l i 11 = l 11 := by unfold upd; rw [if_neg (fun e => hi e.symm)]
  have e2 : upd l i 12 = l 12 := by unfold upd; rw [if_neg (fun e => hi2 e.symm)]
  refine ⟨h.hB.trans (hb.mono h.hB.size), ?_, ?_⟩
  · rw [e1, e2]; exact fun hl => ⟨(h.hg hl).1, blk_below (h.hg hl).2 hb⟩
  · rw [e1, e2]; exact h.ho
theorem Pr4.alloc {W0 W : World} {x : SNode} {l : Nat → Bool} {γ : Nat} (h : Pr4 W0 W x l γ) (hl : l 11 = false) : Pr4 W0 (W.alloc (.cells #[.string ⟨#[]⟩, .int .u64 0, .int .u64 0] 46 (0, 0))) x (upd l 11) W.heap.size := by
  have h12 : l 12 = false := by
    cases hx : l 12 with
    | false => rfl
    | true => rw [h.ho hx] at hl; cases hl
  have e1 : upd l 11 11 = true := rfl
  have e2 : upd l 11 12 = l 12 := rfl
  refine ⟨below_alloc h.hB _, ?_, ?_⟩
  · rw [e1, e2, h12]; exact fun _ => ⟨h.hB.size, blk_new W _⟩
  · rw [e1]; exact fun _ => rfl
theorem Pr4.store {W0 W : World} {x : SNode} {l : Nat → Bool} {γ : Nat} (h : Pr4 W0 W x l γ) (ha : l 11 = true) (hl : l 12 = false) : Pr4 W0 (((W.setCell ⟨γ, 0, none⟩ (.string x.f0)).setCell ⟨γ, 1, none⟩ (.int .u64 x.f1.f0)).setCell ⟨γ, 2, none⟩ (.int .u64 x.f1.f1)) x (upd l 12) γ := by
  have e1 : upd l 12 11 = l 11 := rfl
  have e2 : upd l 12 12 = true := rfl
  obtain ⟨h1, h2⟩ := h.hg ha
  rw [hl, if_neg (by decide)] at h2
  refine ⟨below_set (below_set (below_set h.hB h1) h1) h1, ?_, ?_⟩
  · rw [e1, e2, if_pos rfl]; exact fun _ => ⟨h1, put3 (z := ⟨⟨#[]⟩, ⟨0, 0⟩⟩) h2 x⟩
  · rw [e1]; exact fun _ => ha
abbrev closV (B : Nat) : Value := .func (.func 76) #[] #[.pointer (some ⟨B, 0, none⟩)]
structure PrS (w : World) (B m b3 b4 b5 bx b6 : Nat) (done : List SNode) (r4 : Value) (r5 : Int) (W : World) : Prop where
  n3 : b3 = w.heap.size
  n4 : b4 = w.heap.size + 1
  n5 : b5 = w.heap.size + 2
  nx : bx = w.heap.size + 3
  n6 : b6 = w.heap.size + 4
  h3 : W.heap[b3]? = some (.cells #[closV B] 133 (0, 0))
  h4 : W.heap[b4]? = some (.cells #[r4] 43 (0, 0))
  h5 : W.heap[b5]? = some (.cells #[.int .i64 r5] 26 (0, 0))
  own : W.ownsRow w.heap.size 46 3 (.slice (some ⟨bx, 0, none⟩) done.length m) done.length (cellsN done)
  h6 : W.heap[b6]? = some (.cells #[.slice (some ⟨bx, 0, none⟩) done.length m] 43 (0, 0))
  hB : Below w.heap.size w W
theorem PrS.lt {w W : World} {B m b3 b4 b5 bx b6 : Nat} {done : List SNode} {r4 : Value} {r5 : Int} (h : PrS w B m b3 b4 b5 bx b6 done r4 r5 W) : w.heap.size + 4 < W.heap.size := by have := blk_lt h.h6; rw [h.n6] at this; exact this
theorem own_keep {w w' : World} {base n m g : Nat} {xs : List Value} {e : TypeId} {size : Nat} (h : w.ownsRow base e size (.slice (some ⟨g, 0, none⟩) n m) n xs) (hk : w'.heap[g]? = w.heap[g]?) : w'.ownsRow base e size (.slice (some ⟨g, 0, none⟩) n m) n xs := by
  obtain ⟨hlen, h⟩ := h
  refine ⟨hlen, ?_⟩
  rcases h with ⟨h, _⟩ | ⟨g', cap', cur, hv, hb, hg, hr⟩
  · cases h
  · have e : g' = g := by simp only [Value.slice.injEq, Option.some.injEq, Addr.mk.injEq] at hv; exact hv.1.1.symm
    subst e
    exact .inr ⟨_, cap', cur, hv, hb, hk.trans hg, hr⟩
theorem PrS.keep {w W W' : World} {B m b3 b4 b5 bx b6 : Nat} {done : List SNode} {r4 : Value} {r5 : Int} (h : PrS w B m b3 b4 b5 bx b6 done r4 r5 W) (hk : ∀ k, k ≤ w.heap.size + 4 → W'.heap[k]? = W.heap[k]?) (hB : Below w.heap.size w W') : PrS w B m b3 b4 b5 bx b6 done r4 r5 W' :=
  ⟨h.n3, h.n4, h.n5, h.nx, h.n6, (hk _ (by have := h.n3; omega)).trans h.h3, (hk _ (by have := h.n4; omega)).trans h.h4, (hk _ (by have := h.n5; omega)).trans h.h5, own_keep h.own (hk _ (by have := h.nx; omega)), (hk _ (by have := h.n6; omega)).trans h.h6, hB⟩
theorem PrS.below {w W W' : World} {B m b3 b4 b5 bx b6 : Nat} {done : List SNode} {r4 : Value} {r5 : Int} (h : PrS w B m b3 b4 b5 bx b6 done r4 r5 W) (hb : Below W.heap.size W W') : PrS w B m b3 b4 b5 bx b6 done r4 r5 W' :=
  h.keep (fun k h2 => hb.block k (by have := h.lt; omega)) (h.hB.trans (hb.mono h.hB.size))
theorem PrS.grown {w X Y : World} {B m b3 b4 b5 bx b6 C : Nat} {done : List SNode} {r4 : Value} {r5 : Int} {row : Option Nat} (h : PrS w B m b3 b4 b5 bx b6 done r4 r5 X) (hg : X.grownBy Y row) (hlt : w.heap.size + 4 < C) (hr : ∀ r, row = some r → C ≤ r) : PrS w B m b3 b4 b5 bx b6 done r4 r5 Y := by
  have hl := h.lt
  have hk : ∀ k, k ≤ w.heap.size + 4 → Y.heap[k]? = X.heap[k]? := fun k hk => hg.block k (by omega) (fun e => by have := hr k e.symm; omega)
  exact h.keep hk ⟨hg.os.trans h.hB.os, hg.tape.trans h.hB.tape, hg.output.trans h.hB.output, Nat.le_trans h.hB.size hg.size, fun i hi => (hk i (by omega)).trans (h.hB.block i hi)⟩
theorem PrS.more {w W W' : World} {B m b3 b4 b5 bx b6 : Nat} {done : List SNode} {r4 : Value} {r5 : Int} (x : SNode) (h : PrS w B m b3 b4 b5 bx b6 done r4 r5 W) (hg : W.grownBy W' (some bx)) (hown : W'.ownsRow w.heap.size 46 3 (.slice (some ⟨bx, 0, none⟩) (done.length + 1) m) (done.length + 1) (cellsN done ++ [.string x.f0, .int .u64 x.f1.f0, .int .u64 x.f1.f1])) :
    PrS w B m b3 b4 b5 bx b6 (done ++ [x]) r4 r5 (W'.setCell ⟨b6, 0, none⟩ (.slice (some ⟨bx, 0, none⟩) (done.length + 1) m)) := by
  have hl := h.lt
  have n3 := h.n3; have n4 := h.n4; have n5 := h.n5; have nx := h.nx; have n6 := h.n6
  have hk : ∀ k, k ≤ w.heap.size + 4 → k ≠ bx → W'.heap[k]? = W.heap[k]? := fun k hk hn => hg.block k (by omega) (fun e => hn (Option.some.inj e))
  have hlen : (done ++ [x]).length = done.length + 1 := by simp
  refine ⟨n3, n4, n5, nx, n6, blk_far ((hk _ (by omega) (by omega)).trans h.h3) (by (try dsimp only); omega) _, blk_far ((hk _ (by omega) (by omega)).trans h.h4) (by (try dsimp only); omega) _, blk_far ((hk _ (by omega) (by omega)).trans h.h5) (by (try dsimp only); omega) _, ?_, ?_, ?_⟩
  · rw [hlen, cellsN_append]
    exact own_keep hown (Below.heap_setCell _ _ _ _ (by (try dsimp only); omega))
  · rw [hlen]
    exact blk_put ((hk _ (by omega) (by omega)).trans h.h6) 0 _ rfl
  · have hB : Below w.heap.size w W' := ⟨hg.os.trans h.hB.os, hg.tape.trans h.hB.tape, hg.output.trans h.hB.output, Nat.le_trans h.hB.size hg.size, fun i hi => (hk i (by omega) (by omega)).trans (h.hB.block i hi)⟩
    exact below_set hB (by (try dsimp only); omega)
theorem PrS.put {w W : World} {B m b3 b4 b5 bx b6 : Nat} {done : List SNode} {r4 : Value} {r5 : Int} (h : PrS w B m b3 b4 b5 bx b6 done r4 r5 W) (v : Value) (e : Int) : PrS w B m b3 b4 b5 bx b6 done v e ((W.setCell ⟨b4, 0, none⟩ v).setCell ⟨b5, 0, none⟩ (.int .i64 e)) := by
  have n3 := h.n3; have n4 := h.n4; have n5 := h.n5; have nx := h.nx; have n6 := h.n6
  exact ⟨n3, n4, n5, nx, n6, blk_far (blk_far h.h3 (by (try dsimp only); omega) _) (by (try dsimp only); omega) _, blk_far (blk_put h.h4 0 _ rfl) (by (try dsimp only); omega) _, blk_put (blk_far h.h5 (by (try dsimp only); omega) _) 0 _ rfl,
    own_keep (own_keep h.own (Below.heap_setCell _ _ _ _ (by (try dsimp only); omega))) (Below.heap_setCell _ _ _ _ (by (try dsimp only); omega)), blk_far (blk_far h.h6 (by (try dsimp only); omega) _) (by (try dsimp only); omega) _, below_set (below_set h.hB (by (try dsimp only); omega)) (by (try dsimp only); omega)⟩
end Go.Proofs.YtfcodmdckcihmaaDoor.P
namespace Go.Proofs.YtfcodmdckcihmaaDoor.P
open Go.RowKit Go.Proofs.YtfcodmdckcihmaaDoorW.PrintWords Go.Proofs.YtfcodmdckcihmaaDoorW.PrintLast Go.Proofs.YtfcodmdckcihmaaDoorW.PrintMore
set_option linter.unusedVariables false
set_option linter.unusedSimpArgs false
set_option linter.unnecessarySimpa false
attribute [local go_sem] sel_true
theorem pow_small (h : Nat) (hh : h ≤ 10) : wrap64 ((2 : Int) ^ h) = ((2 ^ h : Nat) : Int) := by
 have h1 : 2 ^ h ≤ 2 ^ 10 := Nat.pow_le_pow_right (by decide) hh
 have e : ((2 ^ h : Nat) : Int) = (2 : Int) ^ h := by simp
 rw [← e]
 revert h1
 generalize 2 ^ h = p
 intro h1
 exact wrap64_id (by omega) (by omega)
theorem len_all : ∀ n ∈ List.range 1025, n ≠ 0 → Lib.bitLen n = (Lib.bitLen n - 1) + 1 ∧ Lib.bitLen n - 1 ≤ 10 ∧ (n == 2 ^ (Lib.bitLen n - 1)) = isPow n := by decide +kernel
set_option maxRecDepth 100000 in
theorem height.calls (n : Nat) (w : World) (hn : n ≤ 1024) : Calls Tryd.prog 55 #[.int .i64 (n : Int)] w fun e w' => (∃ h, e = .returned (.tuple #[.int .i64 h, .bool (isPow n)])) ∧ w = w' := by
 have hw : IntKind.u64.wrap (n : Int) = (n : Int) := wrapu64_id (by omega) (by omega)
 by_cases h0 : n = 0
 ·
  subst h0
  go_enter Tryd.func55, Tryd.ntmps55
  go_wp2_with fail
  refine (Tryd.bits_Len 0 w (by decide) (by decide)).mono ?_
  rintro e w1 ⟨rfl, rfl⟩
  go_wp2
  go_ret2
  exact ⟨⟨_, rfl⟩, rfl⟩
 ·
  obtain ⟨e1, e2, e3⟩ := len_all n (List.mem_range.2 (by omega)) h0
  have q := Tryd.bits_Len (n : Int) w (by omega) (by omega)
  rw [Int.toNat_natCast, e1] at q
  generalize Lib.bitLen n - 1 = h at e2 e3 q
  clear e1
  have w1 : wrap64 (((h + 1 : Nat) : Int) - 1) = (h : Int) := by rw [wrap64_id (by omega) (by omega)]; omega
  have b1 : decide ((0 : Int) < (n : Int)) = true := decide_eq_true (by omega)
  have b2 : decide (0 < n) = true := decide_eq_true (by omega)
  have b4 : decide ((h : Int) ≤ 10) = true := decide_eq_true (by omega)
  have b5 : decide (h ≤ 10) = true := decide_eq_true (by omega)
  have b3 : ((n : Int) == ((2 ^ h : Nat) : Int)) = isPow n := by
   rw [← e3, Bool.eq_iff_iff, beq_iff_eq, beq_iff_eq]
   exact Int.ofNat_inj
  rw [← pow_small h e2] at b3
  have Q := aM' q
  clear q e3
  cases hp : isPow n with
  | true =>
   rw [hp] at b3
   go_enter Tryd.func55, Tryd.ntmps55
   go_wp2_with fail
   refine Q.out.mono ?_
   rintro e w1 ⟨rfl, rfl⟩
   go_wp2
   go_ret2
   exact ⟨⟨_, rfl⟩, rfl⟩
  | false =>
   rw [hp] at b3
   go_enter Tryd.func55, Tryd.ntmps55
   go_wp2_with fail
   refine Q.out.mono ?_
   rintro e w1 ⟨rfl, rfl⟩
   go_wp2
   go_ret2
   exact ⟨⟨_, rfl⟩, rfl⟩
structure OkL (x : SLeaf) : Prop where
 id : x.f1.size ≤ 1000000
 sa : x.f2.size ≤ 1000000
 ub : OkU x.f3
def newI (wd : Int) (l : List SLeaf) : Int :=
 if wd < 1 ∨ 32 < wd then 70 else if isPow l.length = false then 120 else if l.all mayLeafI = false then 130 else if totL (l.map (leafNodeI wd)) < 340282366920938463463374607431768211456 then 0 else 10
structure NwB (w : World) (wd : Int) (W : World) : Prop where
 h2 : W.heap[w.heap.size]? = some (.cells #[.int .i64 wd] 3 (0, 0))
 h4 : W.heap[w.heap.size + 1]? = some (.cells #[.pointer none] 25 (0, 0))
 h5 : W.heap[w.heap.size + 1 + 1]? = some (.cells #[.int .i64 0] 26 (0, 0))
 hB : Below w.heap.size w W
theorem NwB.lt {w W : World} {wd : Int} (h : NwB w wd W) : w.heap.size + 1 + 1 < W.heap.size := blk_lt h.h5
theorem NwB.keep {w W W' : World} {wd : Int} (h : NwB w wd W) (hk : ∀ k, k < w.heap.size + 3 → W'.heap[k]? = W.heap[k]?) (hB : Below w.heap.size w W') : NwB w wd W' := ⟨(hk _ (by omega)).trans h.h2, (hk _ (by omega)).trans h.h4, (hk _ (by omega)).trans h.h5, hB⟩
theorem NwB.below {w W W' : World} {wd : Int} (h : NwB w wd W) (hb : Below W.heap.size W W') : NwB w wd W' := h.keep (fun k hk => hb.block k (by have := h.lt; omega)) (h.hB.trans (hb.mono h.hB.size))
theorem NwB.grown {w X Y : World} {wd : Int} {row : Option Nat} (h : NwB w wd X) (hg : X.grownBy Y row) (hr : ∀ r, row = some r → w.heap.size + 3 ≤ r) : NwB w wd Y := by
 have hl := h.lt
 have hk : ∀ k, k < w.heap.size + 3 → Y.heap[k]? = X.heap[k]? := fun k hk => hg.block k (by omega) (fun e => by have := hr k e.symm; omega)
 exact h.keep hk ⟨hg.os.trans h.hB.os, hg.tape.trans h.hB.tape, hg.output.trans h.hB.output, Nat.le_trans h.hB.size hg.size, fun i hi => (hk i (by omega)).trans (h.hB.block i hi)⟩
theorem NwB.start (w : World) (wd : Int) : NwB w wd (((w.alloc (.cells #[.int .i64 wd] 3)).alloc (.cells #[.pointer none] 25)).alloc (.cells #[.int .i64 0] 26)) := by
 refine ⟨blk_alloc (blk_alloc (blk_new w _) _) _, blk_alloc ?_ _, ?_, below_alloc (below_alloc (below_alloc (Below.refl _ _) _) _) _⟩
 ·
  have := blk_new (w.alloc (.cells #[.int .i64 wd] 3)) (.cells #[.pointer none] 25); rwa [World.size_alloc] at this
 ·
  have := blk_new ((w.alloc (.cells #[.int .i64 wd] 3)).alloc (.cells #[.pointer none] 25)) (.cells #[.int .i64 0] 26); rwa [World.size_alloc, World.size_alloc] at this
theorem new_results (tmps : Array Value) (W : World) (g4 g5 : Nat) (v e : Value) (h4 : tmps.getD 4 undef = .pointer (some ⟨g4, 0, none⟩)) (h5 : tmps.getD 5 undef = .pointer (some ⟨g5, 0, none⟩)) (hg4 : W.heap[g4]? = some (.cells #[v] 25 (0, 0))) (hg5 : W.heap[g5]? = some (.cells #[e] 26 (0, 0))) :
  (results Tryd.f14 tmps).run Tryd.prog W = .ok (.tuple #[v, e]) W := by
 have h4' : tmps[4]?.getD undef = .pointer (some ⟨g4, 0, none⟩) := by simpa using h4
 have h5' : tmps[5]?.getD undef = .pointer (some ⟨g5, 0, none⟩) := by simpa using h5
 have hr : Tryd.f14.results = #[.cell 4 25, .cell 5 26] := rfl
 have hc : W.cell? ⟨g5, 0, none⟩ = some e := blk_cell hg5 0
 have hd : W.cell? ⟨g4, 0, none⟩ = some v := blk_cell hg4 0
 have hu := Tryd.underlying26
 have hu2 := Tryd.underlying25
 have h1 : (loadVar 25 ⟨g4, 0, none⟩).run Tryd.prog W = .ok v W := by go_simp
 have h2 : (loadVar 26 ⟨g5, 0, none⟩).run Tryd.prog W = .ok e W := by go_simp
 simp [results, hr, h4', h5', asAddr, h1, h2]
structure ButD (ds : List Nat) (W W' : World) : Prop where
 os : W'.os = W.os
 tape : W'.tape = W.tape
 output : W'.output = W.output
 size : W'.heap.size = W.heap.size
 heap : ∀ k, k ∉ ds → W'.heap[k]? = W.heap[k]?
abbrev markD (D : Nat) : Deferred := { target := .collected D, args := #[] }
theorem leavesD {fn : Func} {tmps : Array Value} {R : Ending → World → Prop} (v : Value) : ∀ (ds : List Nat) (W : World), ds.Nodup → (∀ D ∈ ds, W.heap[D]? = some (.deferred (some []))) → (∀ W', ButD ds W W' → (results fn tmps).run Tryd.prog W' = .ok v W' ∧ R (.returned v) W') → LeavesInM Fence.wide 3 Tryd.prog fn tmps R (ds.map markD) .returning W
 | [], W, _, _, h => by
  obtain ⟨h1, h2⟩ := h W ⟨rfl, rfl, rfl, rfl, fun _ _ => rfl⟩
  exact ⟨_, h1, h2⟩
 | D :: ds, W, hn, hd, h => by
  have hD := hd D (List.mem_cons_self ..)
  obtain ⟨h1, h2⟩ := List.nodup_cons.1 hn
  refine ⟨by simp, .inl ⟨_, _, rfl, run_takeDeferred hD, ?_⟩⟩
  refine leavesD v ds _ h2 (fun D' hD' => (World.putObj_heap_other (by intro e; subst e; exact h1 hD')).trans (hd D' (List.mem_cons_of_mem _ hD'))) (fun W' hW' => h W' ⟨hW'.os, hW'.tape, hW'.output, hW'.size.trans (by simp), fun k hk => ?_⟩)
  rw [hW'.heap k (fun e => hk (List.mem_cons_of_mem _ e))]
  exact World.putObj_heap_other (by intro e; subst e; exact hk (List.mem_cons_self ..))
theorem retD {fn : Func} {tmps : Array Value} {R : Ending → World → Prop} {ds : List Nat} {W : World} (v : Value) (hn : ds.Nodup) (hd : ∀ D ∈ ds, W.heap[D]? = some (.deferred (some []))) (h : ∀ W', ButD ds W W' → (results fn tmps).run Tryd.prog W' = .ok v W' ∧ R (.returned v) W') :
  bodyPostM Fence.wide 3 Tryd.prog fn R .ret { tmps := tmps, defers := ds.map markD } W := leavesD v ds W hn hd h
theorem ret0 {fn : Func} {tmps : Array Value} {R : Ending → World → Prop} {W : World} (v : Value) (h : (results fn tmps).run Tryd.prog W = .ok v W) (hR : R (.returned v) W) :
  bodyPostM Fence.wide 3 Tryd.prog fn R .ret { tmps := tmps, defers := [] } W := ⟨_, h, hR⟩
theorem NwB.put {w W : World} {wd : Int} (h : NwB w wd W) (v e : Value) : ((W.setCell ⟨w.heap.size + 1, 0, none⟩ v).setCell ⟨w.heap.size + 1 + 1, 0, none⟩ e).heap[w.heap.size + 1]? = some (.cells #[v] 25 (0, 0)) ∧
  ((W.setCell ⟨w.heap.size + 1, 0, none⟩ v).setCell ⟨w.heap.size + 1 + 1, 0, none⟩ e).heap[w.heap.size + 1 + 1]? = some (.cells #[e] 26 (0, 0)) ∧ Below w.heap.size w ((W.setCell ⟨w.heap.size + 1, 0, none⟩ v).setCell ⟨w.heap.size + 1 + 1, 0, none⟩ e) :=
 ⟨blk_far (blk_put h.h4 0 v rfl) (by (try dsimp only); omega) _, blk_put (blk_far h.h5 (by (try dsimp only); omega) _) 0 e rfl, below_set (below_set h.hB (by (try dsimp only); omega)) (by (try dsimp only); omega)⟩
abbrev acL (l : SLeaf) : Array Value := #[.bool l.f0, .string l.f1, .string l.f2, .int .u64 l.f3.f0, .int .u64 l.f3.f1]
theorem ownB {W W' : World} {base n size : Nat} {e : TypeId} {v : Value} {xs : List Value} (h : W.ownsRow base e size v n xs) (hb : Below W.heap.size W W') : W'.ownsRow base e size v n xs := by
 obtain ⟨hlen, h⟩ := h
 refine ⟨hlen, ?_⟩
 rcases h with h | ⟨g', cap', cur, hv, hbb, hg, hr⟩
 ·
  exact .inl h
 ·
  exact .inr ⟨g', cap', cur, hv, hbb, blk_below hg hb, hr⟩
theorem wp_forget {P : Program} {c : Code} {Q : Exit → Act → World → Prop} {a : Act} {W : World} (F : (Nat → Value) → Act) (ha : a = F (fun i => a.tmps.getD i undef)) (h : ∀ x, Code.wp P c Q (F x) W) : Code.wp P c Q a W := by
 rw [ha]; exact h _
structure Nw15 (W0 W : World) (wd : Int) (lf : List SLeaf) (l : Nat → Bool) (γ κ δ : Nat) : Prop where
 hB : Below W0.heap.size W0 W
 hl : l 2 = true → W0.heap.size ≤ γ ∧ γ < W.heap.size ∧ W.ownsRow W0.heap.size 36 5 (.slice (some ⟨γ, 0, none⟩) lf.length κ) lf.length (cellsL lf)
 o3 : l 3 = true → l 2 = true
 o4 : l 4 = true → l 2 = true
 o5 : l 5 = true → l 4 = true
 ht : l 4 = true → W0.heap.size ≤ δ ∧ δ ≠ γ ∧ W.heap[δ]? = some (.cells #[.int .i64 wd, .slice (some ⟨γ, 0, none⟩) lf.length κ, .slice none 0 0] 105 (0, 0))
theorem Nw15.same {W0 W : World} {wd : Int} {lf : List SLeaf} {l : Nat → Bool} {γ κ δ : Nat} (h : Nw15 W0 W wd lf l γ κ δ) (i : Nat) (h2 : i < 2) : Nw15 W0 W wd lf (upd l i) γ κ δ := by
 have e2 : upd l i 2 = l 2 := by unfold upd; rw [if_neg (by omega)]
 have e3 : upd l i 3 = l 3 := by unfold upd; rw [if_neg (by omega)]
 have e4 : upd l i 4 = l 4 := by unfold upd; rw [if_neg (by omega)]
 have e5 : upd l i 5 = l 5 := by unfold upd; rw [if_neg (by omega)]
 exact ⟨h.hB, by rw [e2]; exact h.hl, by rw [e2, e3]; exact h.o3, by rw [e2, e4]; exact h.o4, by rw [e5, e4]; exact h.o5, by rw [e4]; exact h.ht⟩
theorem Nw15.three {W0 W : World} {wd : Int} {lf : List SLeaf} {l : Nat → Bool} {γ κ δ : Nat} (h : Nw15 W0 W wd lf l γ κ δ) (h2 : l 2 = true) : Nw15 W0 W wd lf (upd l 3) γ κ δ :=
 ⟨h.hB, h.hl, fun _ => h2, h.o4, h.o5, h.ht⟩
theorem Nw15.five {W0 W : World} {wd : Int} {lf : List SLeaf} {l : Nat → Bool} {γ κ δ : Nat} (h : Nw15 W0 W wd lf l γ κ δ) (h4 : l 4 = true) : Nw15 W0 W wd lf (upd l 5) γ κ δ :=
 ⟨h.hB, h.hl, h.o3, h.o4, fun _ => h4, h.ht⟩
theorem Nw15.no3 {W0 W : World} {wd : Int} {lf : List SLeaf} {l : Nat → Bool} {γ κ δ : Nat} (h : Nw15 W0 W wd lf l γ κ δ) (h2 : l 2 = false) : l 3 = false := by
 cases hx : l 3 with
 | false => rfl
 | true => rw [h.o3 hx] at h2; cases h2
theorem Nw15.no5 {W0 W : World} {wd : Int} {lf : List SLeaf} {l : Nat → Bool} {γ κ δ : Nat} (h : Nw15 W0 W wd lf l γ κ δ) (h4 : l 4 = false) : l 5 = false := by
 cases hx : l 5 with
 | false => rfl
 | true => rw [h.o5 hx] at h4; cases h4
theorem Nw15.clone {W0 W W' : World} {wd : Int} {lf : List SLeaf} {l : Nat → Bool} {γ κ δ g cap : Nat} (h : Nw15 W0 W wd lf l γ κ δ) (h2 : l 2 = false) (hb : Below W.heap.size W W') (ho : W'.ownsRow W.heap.size 36 5 (.slice (some ⟨g, 0, none⟩) lf.length cap) lf.length (cellsL lf)) (hg : g < W'.heap.size) (hn : 1 ≤ lf.length) : Nw15 W0 W' wd lf (upd l 2) g cap δ := by
 have e4 : upd l 2 4 = l 4 := rfl
 have e3 : upd l 2 3 = l 3 := rfl
 have h4 : l 4 = false := by
  cases hx : l 4 with
  | false => rfl
  | true => rw [h.o4 hx] at h2; cases h2
 have hge : W.heap.size ≤ g := (ho.lt g rfl).1
 refine ⟨h.hB.trans (hb.mono h.hB.size), fun _ => ⟨Nat.le_trans h.hB.size hge, hg, ?_⟩, (fun _ => rfl), (fun _ => rfl), h.o5, fun h' => by rw [e4, h4] at h'; cases h'⟩
 obtain ⟨hlen, ho⟩ := ho
 refine ⟨hlen, ?_⟩
 rcases ho with ⟨h1, h2⟩ | ⟨g', cap', cur, hv, hbb, hr⟩
 ·
  exact .inl ⟨h1, h2⟩
 ·
  exact .inr ⟨g', cap', cur, hv, Nat.le_trans h.hB.size hbb, hr⟩
theorem Nw15.box {W0 W : World} {wd : Int} {lf : List SLeaf} {l : Nat → Bool} {γ κ δ : Nat} (h : Nw15 W0 W wd lf l γ κ δ) (h3' : l 3 = true) : Nw15 W0 (W.alloc (.cells #[.int .i64 wd, .slice (some ⟨γ, 0, none⟩) lf.length κ, .slice none 0 0] 105 (0, 0))) wd lf (upd l 4) γ κ W.heap.size := by
 have h2 := h.o3 h3'
 obtain ⟨h1, h3, h5⟩ := h.hl h2
 exact ⟨below_alloc h.hB _, fun _ => ⟨h1, by rw [World.size_alloc]; omega, ownB h5 (below_alloc (Below.refl _ _) _)⟩, h.o3, (fun _ => h2), (fun _ => rfl), fun _ => ⟨h.hB.size, by omega, blk_new W _⟩⟩
end Go.Proofs.YtfcodmdckcihmaaDoor.P
