/- PROVED HERE: the Go function paymasterlaw18.TraceNodes returns true for every input that the given statement speaks of, and each argument reads behind the call as it read before. Conditions: none beyond the given statement's own (the laid table of constants, tied by the card). -/
-- Several texts of this workplace as one.
import Derived.Test.YtijfifphcchbbaaDoorZTraceNodes3
import Derived.Test.YtijfifphcchbbaaDoorProg
import Derived.Deep.OwnRows
import Derived.Laws.Rows
import Derived.Test.YtijfifphcchbbaaDoorRows
import Derived.Test.YtijfifphcchbbaaDoorCards
import Derived.Test.YtijfifphcchbbaaDoorTie
namespace Go.Proofs.YtijfifphcchbbaaDoor.P
open Go.RowKit Go.Proofs.YtijfifphcchbbaaDoorW.PrintWords Go.Proofs.YtijfifphcchbbaaDoorW.PrintLast Go.Proofs.YtijfifphcchbbaaDoorW.PrintMore
set_option linter.unusedVariables false
set_option linter.unusedSimpArgs false
set_option linter.unnecessarySimpa false
set_option maxRecDepth 100000 in
set_option maxHeartbeats 4000000 in
theorem refNode18.calls (wd lv pl : Int) (t : ByteArray) (w : World) (hK : LaidT w) (ht : t.size ≤ 400) :
  Calls Tryd.prog 23 #[.int .i64 wd, .agg #[.int .i64 lv, .int .u64 pl, .string t]] w fun e w' => e = .returned (.tuple #[nodeV (nodeTI wd t).1, .int .i64 (nodeTI wd t).2]) ∧ Below w.heap.size w w' := by
 have hu := Tryd.underlying28
 have hu2 := Tryd.underlying26
 have hu3 := Tryd.underlying48
 obtain ⟨res, hres⟩ : ∃ x, x = nodeTI wd t := ⟨_, rfl⟩
 rw [← hres]
 have HK := aM' hK
 have HT := aM' ht
 have HRES := aM' hres
 clear hK ht hres
 by_cases hw : 1 ≤ wd ∧ wd ≤ 32
 ·
  have b1 : decide (wd < 1) = false := decide_eq_false (by omega)
  have b2 : decide ((32 : Int) < wd) = false := decide_eq_false (by omega)
  have HD := aM' (refDigest_eq wd t hw.1 hw.2 (by have := HT.out; omega))
  have HW := aM' hw
  have hS := ndS_made w lv pl t
  have HS := aM' hS
  clear hw hS
  go_enter Tryd.func23, Tryd.ntmps23
  go_wp2_with fail
  refine (paymasterref07_Digest.calls wd t (dgI wd t) _ HD.out).mono ?_
  rintro e V2 ⟨rfl, hb⟩
  have hS2 := HS.out.below hb
  have HS2 := aM' hS2
  clear hb hS2 b1 b2
  go_upto_region 4 with (fail)
  obtain ⟨W3, hW⟩ : ∃ X, X = V2.alloc (.cells #[.string (dgI wd t), .int .u64 0, .int .u64 0] 28) := ⟨_, rfl⟩
  rw [← hW]
  have hS3 : NdS w W3 lv pl t := by rw [hW]; exact HS2.out.below (below_alloc (Below.refl _ _) _)
  have h6 : W3.heap[V2.heap.size]? = some (.cells (nodeA ⟨dgI wd t, ⟨0, 0⟩⟩) 28 (0, 0)) := by rw [hW]; exact blk_new _ _
  have hg6 : w.heap.size + 1 < V2.heap.size := HS2.out.lt
  generalize V2.heap.size = g6 at h6 hg6 ⊢
  have HS3 := aM' hS3
  have H6 := aM' h6
  have G6 := aM' hg6
  obtain ⟨s0, s1, s2⟩ := HS3.out.step
  obtain ⟨ks, hks⟩ := (refSides_ev wd lv pl t HT.out).rounds
  obtain ⟨it, hit⟩ : ∃ b, b = isTwo wd t := ⟨_, rfl⟩
  rw [← hit] at hks
  have HIT := aM' hit
  have Q := aM' hks
  clear hks hit hW hS3 h6 hg6
  cases it with
  | true =>
   have q := Q.out
   simp only [if_pos] at q
   obtain ⟨oL, oR⟩ := side_ok wd.toNat t
   obtain ⟨ka, hadd⟩ := (refAdd_ev _ _ _ _ oL.h0 oL.h1 oR.h0 oR.h1).rounds
   obtain ⟨sl, hsl⟩ : ∃ x, x = sideL wd.toNat t := ⟨_, rfl⟩
   obtain ⟨sr, hsr⟩ : ∃ x, x = sideR wd.toNat t := ⟨_, rfl⟩
   rw [← hsl, ← hsr] at q hadd
   have Q1 := aM' q
   have SL := aM' hsl
   have SR := aM' hsr
   rcases had : addI128 sl.f1.f0 sl.f1.f1 sr.f1.f0 sr.f1.f1 with ⟨a1, a2, a3⟩
   rw [had] at hadd
   have AD := aM' had
   have ADD := aM' hadd
   clear q hsl hsr had hadd oL oR Q
   go_wp2_with fail
   refine (paymasterref18_Sides.calls ks _ _ _ _ _ _ _ _ _ _ _ _ Q1.out).mono ?_
   rintro e V4 ⟨rfl, hb⟩
   have hS4 := HS3.out.below hb
   have h64 := blk_below H6.out hb
   have HS4 := aM' hS4
   have H64 := aM' h64
   clear hb hS4 h64 Q1 s0 s1 s2
   go_upto_region 5 with (fail)
   obtain ⟨W5, hW⟩ : ∃ X, X = (V4.alloc (.cells #[.string sl.f0, .int .u64 sl.f1.f0, .int .u64 sl.f1.f1] 28)).alloc (.cells #[.string sr.f0, .int .u64 sr.f1.f0, .int .u64 sr.f1.f1] 28) := ⟨_, rfl⟩
   rw [← hW]
   have hS5 : NdS w W5 lv pl t := by rw [hW]; exact HS4.out.below (below_alloc (below_alloc (Below.refl _ _) _) _)
   have h65 : W5.heap[g6]? = some (.cells (nodeA ⟨dgI wd t, ⟨0, 0⟩⟩) 28 (0, 0)) := by rw [hW]; exact blk_alloc (blk_alloc H64.out _) _
   have hl5 : W5.heap[V4.heap.size]? = some (.cells (nodeA sl) 28 (0, 0)) := by rw [hW]; exact blk_alloc (blk_new V4 _) _
   have hr5 : W5.heap[V4.heap.size + 1]? = some (.cells (nodeA sr) 28 (0, 0)) := by
    have := blk_new (V4.alloc (.cells #[.string sl.f0, .int .u64 sl.f1.f0, .int .u64 sl.f1.f1] 28)) (.cells #[.string sr.f0, .int .u64 sr.f1.f0, .int .u64 sr.f1.f1] 28)
    rw [World.size_alloc] at this
    rw [hW]; exact this
   generalize V4.heap.size = g7 at hl5 hr5 ⊢
   have HS5 := aM' hS5
   have H65 := aM' h65
   have l1 : W5.cell? ⟨g7, 1, none⟩ = some (.int .u64 sl.f1.f0) := blk_cell hl5 1
   have l2 : W5.cell? ⟨g7, 2, none⟩ = some (.int .u64 sl.f1.f1) := blk_cell hl5 2
   have r1 : W5.cell? ⟨g7 + 1, 1, none⟩ = some (.int .u64 sr.f1.f0) := blk_cell hr5 1
   have r2 : W5.cell? ⟨g7 + 1, 2, none⟩ = some (.int .u64 sr.f1.f1) := blk_cell hr5 2
   clear hW hS5 h65 hl5 hr5
   go_wp2_with fail
   refine (paymasterref01_Add.calls ka sl.f1.f0 sl.f1.f1 sr.f1.f0 sr.f1.f1 a1 a2 a3 W5 ADD.out).mono ?_
   rintro e V6 ⟨rfl, hb⟩
   have hS6 := HS5.out.below hb
   have h66 := blk_below H65.out hb
   have HS6 := aM' hS6
   have H66 := aM' h66
   clear hb hS6 h66 l1 l2 r1 r2
   go_upto_region 7 with (fail)
   obtain ⟨W7, hW⟩ : ∃ X, X = V6.alloc (.cells #[.int .u64 a1, .int .u64 a2] 26) := ⟨_, rfl⟩
   rw [← hW]
   have hS7 : NdS w W7 lv pl t := by rw [hW]; exact HS6.out.below (below_alloc (Below.refl _ _) _)
   have h67 : W7.heap[g6]? = some (.cells (nodeA ⟨dgI wd t, ⟨0, 0⟩⟩) 28 (0, 0)) := by rw [hW]; exact blk_alloc H66.out _
   have hu7 : W7.heap[V6.heap.size]? = some (.cells #[.int .u64 a1, .int .u64 a2] 26 (0, 0)) := by rw [hW]; exact blk_new _ _
   have hg : g6 < V6.heap.size := blk_lt H66.out
   generalize V6.heap.size = g8 at hu7 hg ⊢
   have HS7 := aM' hS7
   have H67 := aM' h67
   have u0 : W7.cell? ⟨g8, 0, none⟩ = some (.int .u64 a1) := blk_cell hu7 0
   have u1 : W7.cell? ⟨g8, 1, none⟩ = some (.int .u64 a2) := blk_cell hu7 1
   obtain ⟨⟨y0, y1, y2⟩, yf⟩ := HS7.out.res
   have d0 : W7.cell? ⟨g6, 0, none⟩ = some (.string (dgI wd t)) := blk_cell h67 0
   have d1 : W7.cell? ⟨g6, 1, none⟩ = some (.int .u64 0) := blk_cell h67 1
   have d2 : W7.cell? ⟨g6, 2, none⟩ = some (.int .u64 0) := blk_cell h67 2
   have df : ∀ i, W7.frozen? ⟨g6, i, none⟩ = false := fun i => blk_frozen h67 i
   have hne : g6 ≠ w.heap.size + 1 := Nat.ne_of_gt G6.out
   have hne2 : w.heap.size + 1 ≠ g6 := Nat.ne_of_lt G6.out
   have hge : w.heap.size ≤ g6 := by have := G6.out; omega
   have HGE := aM' hge
   clear hW hS7 h67 hu7 hg hge
   by_cases ha : a3 = 0
   ·
    subst ha
    have HX : Aside0 (res = (⟨dgI wd t, ⟨a1, a2⟩⟩, 0)) := ⟨by rw [HRES.out]; unfold nodeTI; rw [if_pos HW.out, if_pos HIT.out.symm, ← SL.out, ← SR.out, AD.out]; rfl⟩
    go_wp2
    refine bodyPost_ret (v := .tuple #[nodeV ⟨dgI wd t, ⟨a1, a2⟩⟩, .int .i64 0]) ?_ rfl ⟨by rw [HX.out], ?_⟩
    ·
     simp [results, Tryd.results23, go_sem, hu, y0, y1, y2]
    ·
     exact below_set (below_set (below_set (below_set (below_set HS7.out.hB HGE.out) HGE.out) (by (try dsimp only); omega)) (by (try dsimp only); omega)) (by (try dsimp only); omega)
   ·
    have ab : (a3 != 0) = true := by simp [ha]
    have HX : Aside0 (res = (zN, 10)) := ⟨by rw [HRES.out]; unfold nodeTI; rw [if_pos HW.out, if_pos HIT.out.symm, ← SL.out, ← SR.out, AD.out, if_neg ha]⟩
    clear ha
    go_wp2
    refine bodyPost_ret (v := .tuple #[nodeV zN, .int .i64 10]) ?_ rfl ⟨by rw [HX.out], ?_⟩
    ·
     simp [results, Tryd.results23, go_sem, hu, y0, y1, y2]
    ·
     exact below_set (below_set (below_set HS7.out.hB (by (try dsimp only); omega)) (by (try dsimp only); omega)) (by (try dsimp only); omega)
  | false =>
   have q := Q.out
   simp only [if_neg Bool.false_ne_true] at q
   have Q1 := aM' q
   clear q Q
   go_wp2_with fail
   refine (paymasterref18_Sides.calls ks _ _ _ _ _ _ _ _ _ _ _ _ Q1.out).mono ?_
   rintro e V4 ⟨rfl, hb⟩
   have hS4 := HS3.out.below hb
   have h64 := blk_below H6.out hb
   have HS4 := aM' hS4
   have H64 := aM' h64
   clear hb hS4 h64 Q1 s0 s1 s2
   go_upto_region 5 with (fail)
   obtain ⟨W5, hW⟩ : ∃ X, X = (V4.alloc (.cells #[.string ⟨#[]⟩, .int .u64 0, .int .u64 0] 28)).alloc (.cells #[.string ⟨#[]⟩, .int .u64 0, .int .u64 0] 28) := ⟨_, rfl⟩
   rw [← hW]
   have hS5 : NdS w W5 lv pl t := by rw [hW]; exact HS4.out.below (below_alloc (below_alloc (Below.refl _ _) _) _)
   have h65 : W5.heap[g6]? = some (.cells (nodeA ⟨dgI wd t, ⟨0, 0⟩⟩) 28 (0, 0)) := by rw [hW]; exact blk_alloc (blk_alloc H64.out _) _
   have HS5 := aM' hS5
   have H65 := aM' h65
   obtain ⟨_, _, s2⟩ := hS5.step
   clear hW hS5 h65
   go_wp2_with fail
   refine (refLeaf.calls t W5 HT.out).mono ?_
   rintro e V6 ⟨⟨lf, rfl, hlf⟩, hb⟩
   have hS6 := HS5.out.below hb
   have h66 := blk_below H65.out hb
   have HS6 := aM' hS6
   have H66 := aM' h66
   obtain ⟨il, hil⟩ : ∃ b, b = isLeafT t := ⟨_, rfl⟩
   rw [← hil] at hlf ⊢
   have HLF := aM' hlf
   have HIL := aM' hil
   clear hb hS6 h66 s2 hlf hil
   go_upto_region 12 with (fail)
   obtain ⟨W7, hW⟩ : ∃ X, X = V6.alloc (.cells #[.bool lf.f0, .string lf.f1, .string lf.f2, .int .u64 lf.f3.f0, .int .u64 lf.f3.f1] 57) := ⟨_, rfl⟩
   rw [← hW]
   have hS7 : NdS w W7 lv pl t := by rw [hW]; exact HS6.out.below (below_alloc (Below.refl _ _) _)
   have h67 : W7.heap[g6]? = some (.cells (nodeA ⟨dgI wd t, ⟨0, 0⟩⟩) 28 (0, 0)) := by rw [hW]; exact blk_alloc H66.out _
   have hu7 : W7.heap[V6.heap.size]? = some (.cells (acC lf) 57 (0, 0)) := by rw [hW]; exact blk_new _ _
   have hg : g6 < V6.heap.size := blk_lt H66.out
   generalize V6.heap.size = g8 at hu7 hg ⊢
   have HS7 := aM' hS7
   have u0 : W7.cell? ⟨g8, 3, none⟩ = some (.int .u64 lf.f3.f0) := blk_cell hu7 3
   have u1 : W7.cell? ⟨g8, 4, none⟩ = some (.int .u64 lf.f3.f1) := blk_cell hu7 4
   obtain ⟨⟨y0, y1, y2⟩, yf⟩ := HS7.out.res
   have d0 : W7.cell? ⟨g6, 0, none⟩ = some (.string (dgI wd t)) := blk_cell h67 0
   have d1 : W7.cell? ⟨g6, 1, none⟩ = some (.int .u64 0) := blk_cell h67 1
   have d2 : W7.cell? ⟨g6, 2, none⟩ = some (.int .u64 0) := blk_cell h67 2
   have df : ∀ i, W7.frozen? ⟨g6, i, none⟩ = false := fun i => blk_frozen h67 i
   have hne : g6 ≠ w.heap.size + 1 := Nat.ne_of_gt G6.out
   have hne2 : w.heap.size + 1 ≠ g6 := Nat.ne_of_lt G6.out
   have HGE : Aside0 (w.heap.size ≤ g6) := ⟨by have := G6.out; omega⟩
   clear hW hS7 h67 hu7 hg
   cases il with
   | true =>
    have HX : Aside0 (res = (⟨dgI wd t, lf.f3⟩, 0)) := ⟨by
     obtain ⟨l2, n, hn, h3⟩ := HLF.out rfl
     rw [HRES.out]; unfold nodeTI; rw [if_pos HW.out, if_neg (by rw [← HIT.out]; decide), if_pos HIL.out.symm, hn, h3]⟩
    go_wp2
    refine bodyPost_ret (v := .tuple #[nodeV ⟨dgI wd t, lf.f3⟩, .int .i64 0]) ?_ rfl ⟨by rw [HX.out], ?_⟩
    ·
     simp [results, Tryd.results23, go_sem, hu, y0, y1, y2]
    ·
     exact below_set (below_set (below_set (below_set (below_set HS7.out.hB HGE.out) HGE.out) (by (try dsimp only); omega)) (by (try dsimp only); omega)) (by (try dsimp only); omega)
   | false =>
    have HX : Aside0 (res = (zN, 130)) := ⟨by
     rw [HRES.out]; unfold nodeTI; rw [if_pos HW.out, if_neg (by rw [← HIT.out]; decide), if_neg (by rw [← HIL.out]; decide)]⟩
    go_wp2
    refine bodyPost_ret (v := .tuple #[nodeV zN, .int .i64 130]) ?_ rfl ⟨by rw [HX.out], ?_⟩
    ·
     simp [results, Tryd.results23, go_sem, hu, y0, y1, y2]
    ·
     exact below_set (below_set (below_set HS7.out.hB (by (try dsimp only); omega)) (by (try dsimp only); omega)) (by (try dsimp only); omega)
 ·
  have HX : Aside0 (res = (zN, 70)) := ⟨by rw [HRES.out]; unfold nodeTI; rw [if_neg hw]⟩
  have hS := ndS_made w lv pl t
  obtain ⟨⟨y0, y1, y2⟩, yf⟩ := hS.res
  have HS := aM' hS
  clear hS
  by_cases h1 : wd < 1
  ·
   have b1 : decide (wd < 1) = true := decide_eq_true h1
   clear hw
   go_enter Tryd.func23, Tryd.ntmps23
   go_wp2
   refine bodyPost_ret (v := .tuple #[nodeV zN, .int .i64 70]) ?_ rfl ⟨by rw [HX.out], ?_⟩
   ·
    simp [results, Tryd.results23, go_sem, hu, y0, y1, y2]
   ·
    (repeat (with_reducible first | exact Below.refl _ _ | apply below_alloc | refine below_set ?_ (by (try dsimp only); omega)))
  ·
   have b1 : decide (wd < 1) = false := decide_eq_false h1
   have b2 : decide ((32 : Int) < wd) = true := decide_eq_true (by omega)
   clear hw
   go_enter Tryd.func23, Tryd.ntmps23
   go_wp2
   refine bodyPost_ret (v := .tuple #[nodeV zN, .int .i64 70]) ?_ rfl ⟨by rw [HX.out], ?_⟩
   ·
    simp [results, Tryd.results23, go_sem, hu, y0, y1, y2]
   ·
    (repeat (with_reducible first | exact Below.refl _ _ | apply below_alloc | refine below_set ?_ (by (try dsimp only); omega)))
end Go.Proofs.YtijfifphcchbbaaDoor.P
namespace Go.Proofs.YtijfifphcchbbaaDoor.P
open Go.RowKit Go.Proofs.YtijfifphcchbbaaDoorW.PrintWords Go.Proofs.YtijfifphcchbbaaDoorW.PrintLast Go.Proofs.YtijfifphcchbbaaDoorW.PrintMore
set_option linter.unusedVariables false
set_option linter.unusedSimpArgs false
set_option linter.unnecessarySimpa false
attribute [local go_sem high] eqANode
/-! The law TraceNodes, walked; and TraceCuts. -/
/-- The step's box, and n nodes' boxes behind it. -/
abbrev stepA (lv pl : Int) (t : ByteArray) : Array Value := #[.int .i64 lv, .int .u64 pl, .string t]
set_option maxRecDepth 100000 in
set_option maxHeartbeats 4000000 in
theorem lawTN.calls (wd lv pl : Int) (t : ByteArray) (w : World) (hK : LaidT w) :
    Calls Tryd.prog 7 #[.int .i64 wd, .agg #[.int .i64 lv, .int .u64 pl, .string t]] w fun e w' => e = .returned (.bool true) ∧ Below w.heap.size w w' := by
  have hu := Tryd.underlying28
  have hu3 := Tryd.underlying48
  have HK := Aside0.mk hK
  clear hK
  by_cases h : t.size ≤ 400
  · have b0 : decide ((400 : Int) < (t.size : Int)) = false := decide_eq_false (by omega)
    have b1 : decide (400 < t.size) = false := decide_eq_false (by omega)
    obtain ⟨ks, hks⟩ := (refSides_ev wd lv pl t h).rounds
    have e1 := trace_Node.calls wd lv pl t (nodeTI wd t).1.f0 (nodeTI wd t).1.f1.f0 (nodeTI wd t).1.f1.f1 (nodeTI wd t).2
    have e2 := fun W hW => refNode18.calls wd lv pl t W hW h
    have E1 : Aside0 (∀ W, LaidT W → Calls Tryd.prog 22 #[.int .i64 wd, .agg #[.int .i64 lv, .int .u64 pl, .string t]] W fun e w' => e = .returned (.tuple #[nodeV (nodeTI wd t).1, .int .i64 (nodeTI wd t).2]) ∧ Below W.heap.size W w') := ⟨fun W hW => tnode.calls wd lv pl t W hW (by omega)⟩
    have E2 := Aside0.mk e2
    have E3 := Aside0.mk (fun W => sides.calls wd lv pl t W)
    have E4 := Aside0.mk (fun W => paymasterref18_Sides.calls ks wd lv pl t _ _ _ _ _ _ _ W hks)
    generalize (if isTwo wd t = true then sideL wd.toNat t else zN) = sl at E3 E4
    generalize (if isTwo wd t = true then sideR wd.toNat t else zN) = sr at E3 E4
    generalize isTwo wd t = it at E3 E4
    generalize (nodeTI wd t).1 = n at E1 E2
    generalize (nodeTI wd t).2 = en at E1 E2
    clear e1 e2 hks h
    have HS0 := Aside0.mk (And.intro (below_alloc (Below.refl w.heap.size w) (.cells (stepA lv pl t) 48)) (blk_new w (.cells (stepA lv pl t) 48)))
    go_enter Tryd.func7, Tryd.ntmps7
    go_wp2_with fail
    refine (E1.out _ (HK.out.below HS0.out.1)).mono ?_
    rintro e w1 ⟨rfl, hb⟩
    have HS1 := Aside0.mk (And.intro (HS0.out.1.trans (hb.mono HS0.out.1.size)) (blk_below HS0.out.2 hb))
    clear hb HS0
    have s0 := blk_cell HS1.out.2 0
    have s1 := blk_cell HS1.out.2 1
    have s2 := blk_cell HS1.out.2 2
    simp at s0 s1 s2
    have a0 : ∀ o, (w1.alloc o).cell? ⟨w.heap.size, 0, none⟩ = some (.int .i64 lv) := fun o => blk_cell (blk_alloc HS1.out.2 o) 0
    have a1 : ∀ o, (w1.alloc o).cell? ⟨w.heap.size, 1, none⟩ = some (.int .u64 pl) := fun o => blk_cell (blk_alloc HS1.out.2 o) 1
    have a2 : ∀ o, (w1.alloc o).cell? ⟨w.heap.size, 2, none⟩ = some (.string t) := fun o => blk_cell (blk_alloc HS1.out.2 o) 2
    go_wp2_with fail
    have hS := below_alloc HS1.out.1 (.cells (nodeA n) 28)
    refine (E2.out _ (HK.out.below hS)).mono ?_
    rintro e w2 ⟨rfl, hb⟩
    have HS2 := Aside0.mk (And.intro (hS.trans (hb.mono hS.size)) (blk_below (blk_alloc HS1.out.2 _) hb))
    have HN2 := Aside0.mk (blk_below (blk_new w1 (.cells (nodeA n) 28)) hb)
    generalize w1.heap.size = g1 at HN2 ⊢
    clear hb HS1 s0 s1 s2 a0 a1 a2 hS
    have a0 : ∀ o, (w2.alloc o).cell? ⟨w.heap.size, 0, none⟩ = some (.int .i64 lv) := fun o => blk_cell (blk_alloc HS2.out.2 o) 0
    have a1 : ∀ o, (w2.alloc o).cell? ⟨w.heap.size, 1, none⟩ = some (.int .u64 pl) := fun o => blk_cell (blk_alloc HS2.out.2 o) 1
    have a2 : ∀ o, (w2.alloc o).cell? ⟨w.heap.size, 2, none⟩ = some (.string t) := fun o => blk_cell (blk_alloc HS2.out.2 o) 2
    go_wp2_with fail
    have hS := below_alloc HS2.out.1 (.cells (nodeA n) 28)
    refine (E3.out _).mono ?_
    rintro e w3 ⟨rfl, hb⟩
    have HS3 := Aside0.mk (And.intro (hS.trans (hb.mono hS.size)) (blk_below (blk_alloc HS2.out.2 _) hb))
    have HM3 := Aside0.mk (blk_below (blk_new w2 (.cells (nodeA n) 28)) hb)
    have HN3 := Aside0.mk (blk_below (blk_alloc HN2.out (.cells (nodeA n) 28)) hb)
    generalize w2.heap.size = g2 at HM3 ⊢
    clear hb HS2 HN2 a0 a1 a2 hS
    have a0 : ∀ o o', ((w3.alloc o).alloc o').cell? ⟨w.heap.size, 0, none⟩ = some (.int .i64 lv) := fun o o' => blk_cell (blk_alloc (blk_alloc HS3.out.2 o) o') 0
    have a1 : ∀ o o', ((w3.alloc o).alloc o').cell? ⟨w.heap.size, 1, none⟩ = some (.int .u64 pl) := fun o o' => blk_cell (blk_alloc (blk_alloc HS3.out.2 o) o') 1
    have a2 : ∀ o o', ((w3.alloc o).alloc o').cell? ⟨w.heap.size, 2, none⟩ = some (.string t) := fun o o' => blk_cell (blk_alloc (blk_alloc HS3.out.2 o) o') 2
    go_wp2_with fail
    have hS := below_alloc (below_alloc HS3.out.1 (.cells (nodeA sl) 28)) (.cells (nodeA sr) 28)
    refine (E4.out _).mono ?_
    rintro e w4 ⟨rfl, hb⟩
    have hq := blk_new (w3.alloc (.cells (nodeA sl) 28)) (.cells (nodeA sr) 28)
    rw [World.size_alloc] at hq
    have HS4 := Aside0.mk (hS.trans (hb.mono hS.size))
    have HM4 := Aside0.mk (blk_below (blk_alloc (blk_alloc HM3.out (.cells (nodeA sl) 28)) (.cells (nodeA sr) 28)) hb)
    have HN4 := Aside0.mk (blk_below (blk_alloc (blk_alloc HN3.out (.cells (nodeA sl) 28)) (.cells (nodeA sr) 28)) hb)
    have HL4 := Aside0.mk (blk_below (blk_alloc (blk_new w3 (.cells (nodeA sl) 28)) (.cells (nodeA sr) 28)) hb)
    have HR4 := Aside0.mk (blk_below hq hb)
    generalize w3.heap.size = g3 at HL4 HR4 ⊢
    clear hb HS3 HM3 HN3 a0 a1 a2 hS hq
    go_upto_region 7 with (fail)
    obtain ⟨W5, hW⟩ : ∃ V, V = (w4.alloc (.cells (nodeA sl) 28)).alloc (.cells (nodeA sr) 28) := ⟨_, rfl⟩
    rw [← hW]
    have hq := blk_new (w4.alloc (.cells (nodeA sl) 28)) (.cells (nodeA sr) 28)
    rw [World.size_alloc, ← hW] at hq
    have hL := blk_alloc (blk_new w4 (.cells (nodeA sl) 28)) (.cells (nodeA sr) 28)
    rw [← hW] at hL
    have HS5 := Aside0.mk (show Below w.heap.size w W5 by rw [hW]; exact below_alloc (below_alloc HS4.out _) _)
    have hl : W5.heap[g3]? = some (.cells (nodeA sl) 28 (0, 0)) := by rw [hW]; exact blk_alloc (blk_alloc HL4.out _) _
    have hr : W5.heap[g3 + 1]? = some (.cells (nodeA sr) 28 (0, 0)) := by rw [hW]; exact blk_alloc (blk_alloc HR4.out _) _
    have hn : W5.heap[g1]? = some (.cells (nodeA n) 28 (0, 0)) := by rw [hW]; exact blk_alloc (blk_alloc HN4.out _) _
    have hm : W5.heap[g2]? = some (.cells (nodeA n) 28 (0, 0)) := by rw [hW]; exact blk_alloc (blk_alloc HM4.out _) _
    generalize w4.heap.size = g4 at hL hq ⊢
    generalize hg5 : g4 + 1 = g5 at hq ⊢
    generalize hg6 : g3 + 1 = g6 at hr ⊢
    clear hW hg5 hg6 HS4 HM4 HN4 HL4 HR4
    have n0 := blk_cell hn 0
    have n1 := blk_cell hn 1
    have n2 := blk_cell hn 2
    have m0 := blk_cell hm 0
    have m1 := blk_cell hm 1
    have m2 := blk_cell hm 2
    have l0 := blk_cell hl 0
    have l1 := blk_cell hl 1
    have l2 := blk_cell hl 2
    have r0 := blk_cell hr 0
    have r1 := blk_cell hr 1
    have r2 := blk_cell hr 2
    have p0 := blk_cell hL 0
    have p1 := blk_cell hL 1
    have p2 := blk_cell hL 2
    have q0 := blk_cell hq 0
    have q1 := blk_cell hq 1
    have q2 := blk_cell hq 2
    simp at n0 n1 n2 m0 m1 m2 l0 l1 l2 r0 r1 r2 p0 p1 p2 q0 q1 q2
    clear hl hr hn hm hL hq
    go_wp2
    go_ret
    exact ⟨by simp, HS5.out⟩
  · have b0 : decide ((400 : Int) < (t.size : Int)) = true := decide_eq_true (by omega)
    have b1 : decide (400 < t.size) = true := decide_eq_true (by omega)
    clear h
    go_enter Tryd.func7, Tryd.ntmps7
    go_wp2
    go_ret
    exact ⟨rfl, below_alloc (Below.refl _ _) _⟩
def law18_TraceNodes.f (a0 a1_0 a1_1 : Int) (a1_2 : ByteArray) : Option Bool := some true
theorem law18_TraceNodes.calls (a0 a1_0 a1_1 : Int) (a1_2 : ByteArray) (r : Bool) (w : World) (hK : LaidT w) (h : law18_TraceNodes.f a0 a1_0 a1_1 a1_2 = some r) :
    Calls Tryd.prog 7 #[.int .i64 a0, .agg #[.int .i64 a1_0, .int .u64 a1_1, .string a1_2]] w fun e w' => e = .returned (.bool r) ∧ Below w.heap.size w w' := by
  cases h
  exact lawTN.calls a0 a1_0 a1_1 a1_2 w hK
end Go.Proofs.YtijfifphcchbbaaDoor.P
namespace Go.Proofs.YtijfifphcchbbaaDoor.P
open Go.RowKit Go.Proofs.YtijfifphcchbbaaDoorW.PrintWords Go.Proofs.YtijfifphcchbbaaDoorW.PrintLast Go.Proofs.YtijfifphcchbbaaDoorW.PrintMore
set_option linter.unusedVariables false
set_option linter.unusedSimpArgs false
set_option linter.unnecessarySimpa false
theorem pure_TraceNodes : ∀ (y0 : Int) (y1 : STraceStep), (Lit.int .i64 y0).wf = true → wfTraceStep y1 → law18_TraceNodes.f y0 y1.f0 y1.f1 y1.f2 = some true := fun _ _ _ _ => rfl
end Go.Proofs.YtijfifphcchbbaaDoor.P
namespace Go.Proofs.YtijfifphcchbbaaDoor.traceNodes
open Go.Proofs.YtijfifphcchbbaaDoor.P Go.ChangeShapes Go.WideShapes Go.ChangeAt Go.RowKit
open Go.ChangeMaps (open_string shut_string)
open Go.Proofs.YtijfifphcchbbaaDoorW.PrintWords Go.Proofs.YtijfifphcchbbaaDoorW.PrintLast Go.Proofs.YtijfifphcchbbaaDoorW.PrintMore
set_option linter.unusedVariables false
set_option linter.unusedSimpArgs false
theorem own : ownKnob Tryd.prog.godebug = none := by kernel_rfl
theorem laidOut : laidOutB Tryd.prog = true := by kernel_rfl
set_option maxRecDepth 100000 in
theorem lifted (os : Os) (started : os.Started) (H : Type) (enc : TypeId × Value → H) :
    ReturnsInHanded {} Tryd.checked os 7 .any (fun w args => (Rows.traceNodesSpec.pre enc Tryd.prog Tryd.f7 [] false w args ∧ laidMetH Tryd.prog Rows.traceNodesRow.laid w) ∧ sizedMet enc Tryd.prog Tryd.f7 (OpenSpec.ofChange Rows.traceNodesSpec) false w args)
      (Rows.traceNodesSpec.post enc Tryd.prog Tryd.f7 false true false false) := by
  refine returnsInHanded_of_change_and (C := Tryd.checked) (X := fun w _ => laidMetH Tryd.prog Rows.traceNodesRow.laid w) (fun _ _ _ hh h => h.of_heap hh) own started (by kernel_rfl) Tryd.func7
    (ChangeSpec.witness_at (enc := enc) (C := Tryd.checked) (os := os) (X := fun w _ => laidMetH Tryd.prog Rows.traceNodesRow.laid w) false (P.laidWorldT os) #[.int .i64 0, .agg #[.int .i64 0, .int .u64 0, .string ByteArray.empty]] 8 rfl (by kernel_rfl) (by kernel_rfl) (by kernel_rfl) (by kernel_rfl) (by kernel_rfl) (P.laidWorldT_met os _)) ?_
  intro W base args ds gs before hval0 hW _ hsz0 hL _
  have hval : ∀ (j : Nat) t v, Tryd.f7.params[j]? = some t → args[j]? = some v → Value.okWide Tryd.prog W .any base t v := hval0
  have hW' := hW
  obtain ⟨p, q, hA0, hV, rfl, hfz, hnd⟩ := hW
  have hA : DataW.TrodAll enc Tryd.prog W 0 (fun _ => true) true Tryd.f7.params.toList args.toList ds p := hA0
  rw [Tryd.params7] at hA hval
  obtain ⟨v0, vs0, d0, ds0, p0, q0, hargs, rfl, rfl, h0, r0⟩ := trodAll_cons hA
  obtain ⟨v1, vs1, d1, ds1, p1, q1, rfl, rfl, rfl, h1, r1⟩ := trodAll_cons r0
  obtain ⟨rfl, rfl, rfl⟩ := trodAll_nil r1
  obtain rfl : args = #[v0, v1] := by cases args; simp_all
  obtain ⟨rfl, rfl⟩ := trodVars_none hV
  have hz0 : Sized Tryd.prog 3 d0 := Sized.each hsz0 (j := 0) rfl rfl
  have hz1 : Sized Tryd.prog 48 d1 := Sized.each hsz0 (j := 1) rfl rfl
  have k0 := h0
  have lt0 : ∀ x ∈ p0, x.block < W.heap.size := by obtain ⟨m, hm⟩ := k0; exact DataW.trod_lt m _ _ _ hm
  obtain ⟨y0, rfl, rfl, rfl, w0⟩ := open_int Tryd.underlying3 (hval 0 3 v0 rfl rfl) h0
  have k1 := h1
  have lt1 : ∀ x ∈ p1, x.block < W.heap.size := by obtain ⟨m, hm⟩ := k1; exact DataW.trod_lt m _ _ _ hm
  obtain ⟨y1, cs1, rfl, hk1, w1⟩ := rdTraceStep.agg Tryd.underlying48 (hval 1 48 v1 rfl rfl) h1 hz1
  obtain ⟨cl1, rfl⟩ : ∃ l : List Value, cs1 = l.toArray := ⟨cs1.toList, by simp⟩
  simp only [List.toList_toArray] at hk1
  obtain rfl := kTraceStep_open hk1
  clear hA0 hval0 hsz0
  have h := pure_TraceNodes y0 y1 w0 w1
  refine (law18_TraceNodes.calls y0 y1.f0 y1.f1 y1.f2 true W (P.laidT_of_met hL)  h).mono fun e W' ⟨he, bel0⟩ => ?_
  have bel := bel0
  subst he
  exact ⟨_, rfl, _, _, _, [], _, [], hW', trodAll_mk1 (shut_bool Tryd.underlying4 _), (trodAll_cons_mk (Below.trod laidOut (by kernel_rfl) (of_decide_eq_true (by kernel_rfl)) k0 bel lt0) (trodAll_cons_mk (Below.trod laidOut (by kernel_rfl) (of_decide_eq_true (by kernel_rfl)) k1 bel lt1) trodAll_mk0)), rfl, bel.frame _, fun h => by cases h⟩
theorem over : Rows.traceNodesRow.holds Tryd.pinned (OpenSpec.ofChange Rows.traceNodesSpec) :=
  OpenClaim.holds_of_wide 7 Tryd.f7 rfl rfl rfl rfl rfl rfl rfl ⟨rfl, rfl, rfl, rfl, rfl⟩ rfl rfl rfl rfl rfl (by kernel_rfl) Tryd.func7 (by kernel_rfl)
    (of_decide_eq_true (by kernel_rfl)) (by unfold Func.isWrapper; first | (rw [if_pos (by decide +kernel)]; kernel_rfl) | (rw [if_neg (by decide +kernel)]; exact ⟨rfl, rfl⟩))
    (fun os started H enc _ => lifted os started H enc)
set_option maxRecDepth 100000 in
theorem proved : Rows.TraceNodesCardSaid :=
  Claim7.holds_tied_plain_at .later [] [.data, .data, .pinned] true (true, "165769d79d58bfc62aef2440c3d64497f5a859f08bfc759ed4b0f4abe4cad1c8") true
    over (fun _ h => by cases h) (by kernel_rfl) (fun _ h => by cases h) traceNodes_row_tie rfl ⟨rfl, rfl⟩ (by kernel_rfl) rfl
    (fun f fn hf hfn => by
      obtain rfl : f = 7 := Option.some.inj ((show Tryd.prog.funcNamed "paymaster/paymasterlaw18.TraceNodes" = some 7 by kernel_rfl).symm.trans hf) |>.symm
      obtain rfl : fn = Tryd.f7 := (Option.some.inj (Tryd.func7.symm.trans hfn)).symm
      exact ⟨by kernel_rfl, fun j t ht => by
        rw [Tryd.params7] at ht
        have h3 : t ∈ [3, 48] := by
          have := List.mem_of_getElem? (l := [3, 48]) (i := j) (a := t) (by simpa using ht)
          exact this
        simp only [List.mem_cons, List.not_mem_nil, or_false] at h3
        rcases h3 with rfl | rfl
        · exact (show Tryd.prog.wantsStandIn 3 = false by kernel_rfl)
        · exact (show Tryd.prog.wantsStandIn 48 = false by kernel_rfl)
      ⟩)
    (by kernel_rfl)
#print axioms proved
end Go.Proofs.YtijfifphcchbbaaDoor.traceNodes
namespace Go.Proofs.YtijfifphcchbbaaDoor
/-- The row, under a short name, for the claim. -/
theorem traceNodes_holds : Rows.TraceNodesCardSaid := traceNodes.proved
end Go.Proofs.YtijfifphcchbbaaDoor
