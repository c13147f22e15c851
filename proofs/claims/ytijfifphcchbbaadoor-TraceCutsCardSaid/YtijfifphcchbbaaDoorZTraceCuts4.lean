/- PROVED HERE: the Go function paymasterlaw18.TraceCuts returns true for every input that the given statement speaks of, and each argument reads behind the call as it read before. Conditions: none beyond the given statement's own (the laid table of constants, tied by the card). -/
-- Several texts of this workplace as one.
import Derived.Test.YtijfifphcchbbaaDoorZTraceCuts3
import Derived.Test.YtijfifphcchbbaaDoorProg
import Derived.Deep.OwnRows
import Derived.Laws.Rows
import Derived.Test.YtijfifphcchbbaaDoorRows
import Derived.Test.YtijfifphcchbbaaDoorCards
import Derived.Test.YtijfifphcchbbaaDoorTie
namespace Go.Proofs.YtijfifphcchbbaaDoor.P
open Go.RowKit Go.Proofs.YtijfifphcchbbaaDoorW.PrintWords Go.Proofs.YtijfifphcchbbaaDoorW.PrintLast Go.Proofs.YtijfifphcchbbaaDoorW.PrintMore
set_option linter.unusedVariables false
set_option linter.unusedSimpArgs false
set_option linter.unnecessarySimpa false
set_option maxRecDepth 100000 in
set_option maxHeartbeats 4000000 in
theorem refNode18.calls (wd lv pl : Int) (t : ByteArray) (w : World) (hK : LaidT w) (ht : t.size ≤ 400) :
  Calls Tryd.prog 23 #[.int .i64 wd, .agg #[.int .i64 lv, .int .u64 pl, .string t]] w fun e w' => e = .returned (.tuple #[nodeV (nodeTI wd t).1, .int .i64 (nodeTI wd t).2]) ∧ Below w.heap.size w w' := by
 have hu := Tryd.underlying28
 have hu2 := Tryd.underlying26
 have hu3 := Tryd.underlying48
 obtain ⟨res, hres⟩ : ∃ x, x = nodeTI wd t := ⟨_, rfl⟩
 rw [← hres]
 have HK := aM' hK
 have HT := aM' ht
 have HRES := aM' hres
 clear hK ht hres
 by_cases hw : 1 ≤ wd ∧ wd ≤ 32
 ·
  have b1 : decide (wd < 1) = false := decide_eq_false (by omega)
  have b2 : decide ((32 : Int) < wd) = false := decide_eq_false (by omega)
  have HD := aM' (refDigest_eq wd t hw.1 hw.2 (by have := HT.out; omega))
  have HW := aM' hw
  have hS := ndS_made w lv pl t
  have HS := aM' hS
  clear hw hS
  go_enter Tryd.func23, Tryd.ntmps23
  go_wp2_with fail
  refine (paymasterref07_Digest.calls wd t (dgI wd t) _ HD.out).mono ?_
  rintro e V2 ⟨rfl, hb⟩
  have hS2 := HS.out.below hb
  have HS2 := aM' hS2
  clear hb hS2 b1 b2
  go_upto_region 4 with (fail)
  obtain ⟨W3, hW⟩ : ∃ X, X = V2.alloc (.cells #[.string (dgI wd t), .int .u64 0, .int .u64 0] 28) := ⟨_, rfl⟩
  rw [← hW]
  have hS3 : NdS w W3 lv pl t := by rw [hW]; exact HS2.out.below (below_alloc (Below.refl _ _) _)
  have h6 : W3.heap[V2.heap.size]? = some (.cells (nodeA ⟨dgI wd t, ⟨0, 0⟩⟩) 28 (0, 0)) := by rw [hW]; exact blk_new _ _
  have hg6 : w.heap.size + 1 < V2.heap.size := HS2.out.lt
  generalize V2.heap.size = g6 at h6 hg6 ⊢
  have HS3 := aM' hS3
  have H6 := aM' h6
  have G6 := aM' hg6
  obtain ⟨s0, s1, s2⟩ := HS3.out.step
  obtain ⟨ks, hks⟩ := (refSides_ev wd lv pl t HT.out).rounds
  obtain ⟨it, hit⟩ : ∃ b, b = isTwo wd t := ⟨_, rfl⟩
  rw [← hit] at hks
  have HIT := aM' hit
  have Q := aM' hks
  clear hks hit hW hS3 h6 hg6
  cases it with
  | true =>
   have q := Q.out
   simp only [if_pos] at q
   obtain ⟨oL, oR⟩ := side_ok wd.toNat t
   obtain ⟨ka, hadd⟩ := (refAdd_ev _ _ _ _ oL.h0 oL.h1 oR.h0 oR.h1).rounds
   obtain ⟨sl, hsl⟩ : ∃ x, x = sideL wd.toNat t := ⟨_, rfl⟩
   obtain ⟨sr, hsr⟩ : ∃ x, x = sideR wd.toNat t := ⟨_, rfl⟩
   rw [← hsl, ← hsr] at q hadd
   have Q1 := aM' q
   have SL := aM' hsl
   have SR := aM' hsr
   rcases had : addI128 sl.f1.f0 sl.f1.f1 sr.f1.f0 sr.f1.f1 with ⟨a1, a2, a3⟩
   rw [had] at hadd
   have AD := aM' had
   have ADD := aM' hadd
   clear q hsl hsr had hadd oL oR Q
   go_wp2_with fail
   refine (paymasterref18_Sides.calls ks _ _ _ _ _ _ _ _ _ _ _ _ Q1.out).mono ?_
   rintro e V4 ⟨rfl, hb⟩
   have hS4 := HS3.out.below hb
   have h64 := blk_below H6.out hb
   have HS4 := aM' hS4
   have H64 := aM' h64
   clear hb hS4 h64 Q1 s0 s1 s2
   go_upto_region 5 with (fail)
   obtain ⟨W5, hW⟩ : ∃ X, X = (V4.alloc (.cells #[.string sl.f0, .int .u64 sl.f1.f0, .int .u64 sl.f1.f1] 28)).alloc (.cells #[.string sr.f0, .int .u64 sr.f1.f0, .int .u64 sr.f1.f1] 28) := ⟨_, rfl⟩
   rw [← hW]
   have hS5 : NdS w W5 lv pl t := by rw [hW]; exact HS4.out.below (below_alloc (below_alloc (Below.refl _ _) _) _)
   have h65 : W5.heap[g6]? = some (.cells (nodeA ⟨dgI wd t, ⟨0, 0⟩⟩) 28 (0, 0)) := by rw [hW]; exact blk_alloc (blk_alloc H64.out _) _
   have hl5 : W5.heap[V4.heap.size]? = some (.cells (nodeA sl) 28 (0, 0)) := by rw [hW]; exact blk_alloc (blk_new V4 _) _
   have hr5 : W5.heap[V4.heap.size + 1]? = some (.cells (nodeA sr) 28 (0, 0)) := by
    have := blk_new (V4.alloc (.cells #[.string sl.f0, .int .u64 sl.f1.f0, .int .u64 sl.f1.f1] 28)) (.cells #[.string sr.f0, .int .u64 sr.f1.f0, .int .u64 sr.f1.f1] 28)
    rw [World.size_alloc] at this
    rw [hW]; exact this
   generalize V4.heap.size = g7 at hl5 hr5 ⊢
   have HS5 := aM' hS5
   have H65 := aM' h65
   have l1 : W5.cell? ⟨g7, 1, none⟩ = some (.int .u64 sl.f1.f0) := blk_cell hl5 1
   have l2 : W5.cell? ⟨g7, 2, none⟩ = some (.int .u64 sl.f1.f1) := blk_cell hl5 2
   have r1 : W5.cell? ⟨g7 + 1, 1, none⟩ = some (.int .u64 sr.f1.f0) := blk_cell hr5 1
   have r2 : W5.cell? ⟨g7 + 1, 2, none⟩ = some (.int .u64 sr.f1.f1) := blk_cell hr5 2
   clear hW hS5 h65 hl5 hr5
   go_wp2_with fail
   refine (paymasterref01_Add.calls ka sl.f1.f0 sl.f1.f1 sr.f1.f0 sr.f1.f1 a1 a2 a3 W5 ADD.out).mono ?_
   rintro e V6 ⟨rfl, hb⟩
   have hS6 := HS5.out.below hb
   have h66 := blk_below H65.out hb
   have HS6 := aM' hS6
   have H66 := aM' h66
   clear hb hS6 h66 l1 l2 r1 r2
   go_upto_region 7 with (fail)
   obtain ⟨W7, hW⟩ : ∃ X, X = V6.alloc (.cells #[.int .u64 a1, .int .u64 a2] 26) := ⟨_, rfl⟩
   rw [← hW]
   have hS7 : NdS w W7 lv pl t := by rw [hW]; exact HS6.out.below (below_alloc (Below.refl _ _) _)
   have h67 : W7.heap[g6]? = some (.cells (nodeA ⟨dgI wd t, ⟨0, 0⟩⟩) 28 (0, 0)) := by rw [hW]; exact blk_alloc H66.out _
   have hu7 : W7.heap[V6.heap.size]? = some (.cells #[.int .u64 a1, .int .u64 a2] 26 (0, 0)) := by rw [hW]; exact blk_new _ _
   have hg : g6 < V6.heap.size := blk_lt H66.out
   generalize V6.heap.size = g8 at hu7 hg ⊢
   have HS7 := aM' hS7
   have H67 := aM' h67
   have u0 : W7.cell? ⟨g8, 0, none⟩ = some (.int .u64 a1) := blk_cell hu7 0
   have u1 : W7.cell? ⟨g8, 1, none⟩ = some (.int .u64 a2) := blk_cell hu7 1
   obtain ⟨⟨y0, y1, y2⟩, yf⟩ := HS7.out.res
   have d0 : W7.cell? ⟨g6, 0, none⟩ = some (.string (dgI wd t)) := blk_cell h67 0
   have d1 : W7.cell? ⟨g6, 1, none⟩ = some (.int .u64 0) := blk_cell h67 1
   have d2 : W7.cell? ⟨g6, 2, none⟩ = some (.int .u64 0) := blk_cell h67 2
   have df : ∀ i, W7.frozen? ⟨g6, i, none⟩ = false := fun i => blk_frozen h67 i
   have hne : g6 ≠ w.heap.size + 1 := Nat.ne_of_gt G6.out
   have hne2 : w.heap.size + 1 ≠ g6 := Nat.ne_of_lt G6.out
   have hge : w.heap.size ≤ g6 := by have := G6.out; omega
   have HGE := aM' hge
   clear hW hS7 h67 hu7 hg hge
   by_cases ha : a3 = 0
   ·
    subst ha
    have HX : Aside0 (res = (⟨dgI wd t, ⟨a1, a2⟩⟩, 0)) := ⟨by rw [HRES.out]; unfold nodeTI; rw [if_pos HW.out, if_pos HIT.out.symm, ← SL.out, ← SR.out, AD.out]; rfl⟩
    go_wp2
    refine bodyPost_ret (v := .tuple #[nodeV ⟨dgI wd t, ⟨a1, a2⟩⟩, .int .i64 0]) ?_ rfl ⟨by rw [HX.out], ?_⟩
    ·
     simp [results, Tryd.results23, go_sem, hu, y0, y1, y2]
    ·
     exact below_set (below_set (below_set (below_set (below_set HS7.out.hB HGE.out) HGE.out) (by (try dsimp only); omega)) (by (try dsimp only); omega)) (by (try dsimp only); omega)
   ·
    have ab : (a3 != 0) = true := by simp [ha]
    have HX : Aside0 (res = (zN, 10)) := ⟨by rw [HRES.out]; unfold nodeTI; rw [if_pos HW.out, if_pos HIT.out.symm, ← SL.out, ← SR.out, AD.out, if_neg ha]⟩
    clear ha
    go_wp2
    refine bodyPost_ret (v := .tuple #[nodeV zN, .int .i64 10]) ?_ rfl ⟨by rw [HX.out], ?_⟩
    ·
     simp [results, Tryd.results23, go_sem, hu, y0, y1, y2]
    ·
     exact below_set (below_set (below_set HS7.out.hB (by (try dsimp only); omega)) (by (try dsimp only); omega)) (by (try dsimp only); omega)
  | false =>
   have q := Q.out
   simp only [if_neg Bool.false_ne_true] at q
   have Q1 := aM' q
   clear q Q
   go_wp2_with fail
   refine (paymasterref18_Sides.calls ks _ _ _ _ _ _ _ _ _ _ _ _ Q1.out).mono ?_
   rintro e V4 ⟨rfl, hb⟩
   have hS4 := HS3.out.below hb
   have h64 := blk_below H6.out hb
   have HS4 := aM' hS4
   have H64 := aM' h64
   clear hb hS4 h64 Q1 s0 s1 s2
   go_upto_region 5 with (fail)
   obtain ⟨W5, hW⟩ : ∃ X, X = (V4.alloc (.cells #[.string ⟨#[]⟩, .int .u64 0, .int .u64 0] 28)).alloc (.cells #[.string ⟨#[]⟩, .int .u64 0, .int .u64 0] 28) := ⟨_, rfl⟩
   rw [← hW]
   have hS5 : NdS w W5 lv pl t := by rw [hW]; exact HS4.out.below (below_alloc (below_alloc (Below.refl _ _) _) _)
   have h65 : W5.heap[g6]? = some (.cells (nodeA ⟨dgI wd t, ⟨0, 0⟩⟩) 28 (0, 0)) := by rw [hW]; exact blk_alloc (blk_alloc H64.out _) _
   have HS5 := aM' hS5
   have H65 := aM' h65
   obtain ⟨_, _, s2⟩ := hS5.step
   clear hW hS5 h65
   go_wp2_with fail
   refine (refLeaf.calls t W5 HT.out).mono ?_
   rintro e V6 ⟨⟨lf, rfl, hlf⟩, hb⟩
   have hS6 := HS5.out.below hb
   have h66 := blk_below H65.out hb
   have HS6 := aM' hS6
   have H66 := aM' h66
   obtain ⟨il, hil⟩ : ∃ b, b = isLeafT t := ⟨_, rfl⟩
   rw [← hil] at hlf ⊢
   have HLF := aM' hlf
   have HIL := aM' hil
   clear hb hS6 h66 s2 hlf hil
   go_upto_region 12 with (fail)
   obtain ⟨W7, hW⟩ : ∃ X, X = V6.alloc (.cells #[.bool lf.f0, .string lf.f1, .string lf.f2, .int .u64 lf.f3.f0, .int .u64 lf.f3.f1] 57) := ⟨_, rfl⟩
   rw [← hW]
   have hS7 : NdS w W7 lv pl t := by rw [hW]; exact HS6.out.below (below_alloc (Below.refl _ _) _)
   have h67 : W7.heap[g6]? = some (.cells (nodeA ⟨dgI wd t, ⟨0, 0⟩⟩) 28 (0, 0)) := by rw [hW]; exact blk_alloc H66.out _
   have hu7 : W7.heap[V6.heap.size]? = some (.cells (acC lf) 57 (0, 0)) := by rw [hW]; exact blk_new _ _
   have hg : g6 < V6.heap.size := blk_lt H66.out
   generalize V6.heap.size = g8 at hu7 hg ⊢
   have HS7 := aM' hS7
   have u0 : W7.cell? ⟨g8, 3, none⟩ = some (.int .u64 lf.f3.f0) := blk_cell hu7 3
   have u1 : W7.cell? ⟨g8, 4, none⟩ = some (.int .u64 lf.f3.f1) := blk_cell hu7 4
   obtain ⟨⟨y0, y1, y2⟩, yf⟩ := HS7.out.res
   have d0 : W7.cell? ⟨g6, 0, none⟩ = some (.string (dgI wd t)) := blk_cell h67 0
   have d1 : W7.cell? ⟨g6, 1, none⟩ = some (.int .u64 0) := blk_cell h67 1
   have d2 : W7.cell? ⟨g6, 2, none⟩ = some (.int .u64 0) := blk_cell h67 2
   have df : ∀ i, W7.frozen? ⟨g6, i, none⟩ = false := fun i => blk_frozen h67 i
   have hne : g6 ≠ w.heap.size + 1 := Nat.ne_of_gt G6.out
   have hne2 : w.heap.size + 1 ≠ g6 := Nat.ne_of_lt G6.out
   have HGE : Aside0 (w.heap.size ≤ g6) := ⟨by have := G6.out; omega⟩
   clear hW hS7 h67 hu7 hg
   cases il with
   | true =>
    have HX : Aside0 (res = (⟨dgI wd t, lf.f3⟩, 0)) := ⟨by
     obtain ⟨l2, n, hn, h3⟩ := HLF.out rfl
     rw [HRES.out]; unfold nodeTI; rw [if_pos HW.out, if_neg (by rw [← HIT.out]; decide), if_pos HIL.out.symm, hn, h3]⟩
    go_wp2
    refine bodyPost_ret (v := .tuple #[nodeV ⟨dgI wd t, lf.f3⟩, .int .i64 0]) ?_ rfl ⟨by rw [HX.out], ?_⟩
    ·
     simp [results, Tryd.results23, go_sem, hu, y0, y1, y2]
    ·
     exact below_set (below_set (below_set (below_set (below_set HS7.out.hB HGE.out) HGE.out) (by (try dsimp only); omega)) (by (try dsimp only); omega)) (by (try dsimp only); omega)
   | false =>
    have HX : Aside0 (res = (zN, 130)) := ⟨by
     rw [HRES.out]; unfold nodeTI; rw [if_pos HW.out, if_neg (by rw [← HIT.out]; decide), if_neg (by rw [← HIL.out]; decide)]⟩
    go_wp2
    refine bodyPost_ret (v := .tuple #[nodeV zN, .int .i64 130]) ?_ rfl ⟨by rw [HX.out], ?_⟩
    ·
     simp [results, Tryd.results23, go_sem, hu, y0, y1, y2]
    ·
     exact below_set (below_set (below_set HS7.out.hB (by (try dsimp only); omega)) (by (try dsimp only); omega)) (by (try dsimp only); omega)
 ·
  have HX : Aside0 (res = (zN, 70)) := ⟨by rw [HRES.out]; unfold nodeTI; rw [if_neg hw]⟩
  have hS := ndS_made w lv pl t
  obtain ⟨⟨y0, y1, y2⟩, yf⟩ := hS.res
  have HS := aM' hS
  clear hS
  by_cases h1 : wd < 1
  ·
   have b1 : decide (wd < 1) = true := decide_eq_true h1
   clear hw
   go_enter Tryd.func23, Tryd.ntmps23
   go_wp2
   refine bodyPost_ret (v := .tuple #[nodeV zN, .int .i64 70]) ?_ rfl ⟨by rw [HX.out], ?_⟩
   ·
    simp [results, Tryd.results23, go_sem, hu, y0, y1, y2]
   ·
    (repeat (with_reducible first | exact Below.refl _ _ | apply below_alloc | refine below_set ?_ (by (try dsimp only); omega)))
  ·
   have b1 : decide (wd < 1) = false := decide_eq_false h1
   have b2 : decide ((32 : Int) < wd) = true := decide_eq_true (by omega)
   clear hw
   go_enter Tryd.func23, Tryd.ntmps23
   go_wp2
   refine bodyPost_ret (v := .tuple #[nodeV zN, .int .i64 70]) ?_ rfl ⟨by rw [HX.out], ?_⟩
   ·
    simp [results, Tryd.results23, go_sem, hu, y0, y1, y2]
   ·
    (repeat (with_reducible first | exact Below.refl _ _ | apply below_alloc | refine below_set ?_ (by (try dsimp only); omega)))
end Go.Proofs.YtijfifphcchbbaaDoor.P
namespace Go.Proofs.YtijfifphcchbbaaDoor.P
open Go.RowKit Go.Proofs.YtijfifphcchbbaaDoorW.PrintWords Go.Proofs.YtijfifphcchbbaaDoorW.PrintLast Go.Proofs.YtijfifphcchbbaaDoorW.PrintMore
set_option linter.unusedVariables false
set_option linter.unusedSimpArgs false
set_option linter.unnecessarySimpa false
attribute [local go_sem high] eqANode
abbrev stepA (lv pl : Int) (t : ByteArray) : Array Value := #[.int .i64 lv, .int .u64 pl, .string t]
set_option maxRecDepth 100000 in
set_option maxHeartbeats 4000000 in
theorem lawTN.calls (wd lv pl : Int) (t : ByteArray) (w : World) (hK : LaidT w) :
  Calls Tryd.prog 7 #[.int .i64 wd, .agg #[.int .i64 lv, .int .u64 pl, .string t]] w fun e w' => e = .returned (.bool true) ∧ Below w.heap.size w w' := by
 have hu := Tryd.underlying28
 have hu3 := Tryd.underlying48
 have HK := aM' hK
 clear hK
 by_cases h : t.size ≤ 400
 ·
  have b0 : decide ((400 : Int) < (t.size : Int)) = false := decide_eq_false (by omega)
  have b1 : decide (400 < t.size) = false := decide_eq_false (by omega)
  obtain ⟨ks, hks⟩ := (refSides_ev wd lv pl t h).rounds
  have e1 := trace_Node.calls wd lv pl t (nodeTI wd t).1.f0 (nodeTI wd t).1.f1.f0 (nodeTI wd t).1.f1.f1 (nodeTI wd t).2
  have e2 := fun W hW => refNode18.calls wd lv pl t W hW h
  have E1 : Aside0 (∀ W, LaidT W → Calls Tryd.prog 22 #[.int .i64 wd, .agg #[.int .i64 lv, .int .u64 pl, .string t]] W fun e w' => e = .returned (.tuple #[nodeV (nodeTI wd t).1, .int .i64 (nodeTI wd t).2]) ∧ Below W.heap.size W w') := ⟨fun W hW => tnode.calls wd lv pl t W hW (by omega)⟩
  have E2 := aM' e2
  have E3 := aM' (fun W => sides.calls wd lv pl t W)
  have E4 := aM' (fun W => paymasterref18_Sides.calls ks wd lv pl t _ _ _ _ _ _ _ W hks)
  generalize (if isTwo wd t = true then sideL wd.toNat t else zN) = sl at E3 E4
  generalize (if isTwo wd t = true then sideR wd.toNat t else zN) = sr at E3 E4
  generalize isTwo wd t = it at E3 E4
  generalize (nodeTI wd t).1 = n at E1 E2
  generalize (nodeTI wd t).2 = en at E1 E2
  clear e1 e2 hks h
  have HS0 := aM' (And.intro (below_alloc (Below.refl w.heap.size w) (.cells (stepA lv pl t) 48)) (blk_new w (.cells (stepA lv pl t) 48)))
  go_enter Tryd.func7, Tryd.ntmps7
  go_wp2_with fail
  refine (E1.out _ (HK.out.below HS0.out.1)).mono ?_
  rintro e w1 ⟨rfl, hb⟩
  have HS1 := aM' (And.intro (HS0.out.1.trans (hb.mono HS0.out.1.size)) (blk_below HS0.out.2 hb))
  clear hb HS0
  have s0 := blk_cell HS1.out.2 0
  have s1 := blk_cell HS1.out.2 1
  have s2 := blk_cell HS1.out.2 2
  simp at s0 s1 s2
  have a0 : ∀ o, (w1.alloc o).cell? ⟨w.heap.size, 0, none⟩ = some (.int .i64 lv) := fun o => blk_cell (blk_alloc HS1.out.2 o) 0
  have a1 : ∀ o, (w1.alloc o).cell? ⟨w.heap.size, 1, none⟩ = some (.int .u64 pl) := fun o => blk_cell (blk_alloc HS1.out.2 o) 1
  have a2 : ∀ o, (w1.alloc o).cell? ⟨w.heap.size, 2, none⟩ = some (.string t) := fun o => blk_cell (blk_alloc HS1.out.2 o) 2
  go_wp2_with fail
  have hS := below_alloc HS1.out.1 (.cells (nodeA n) 28)
  refine (E2.out _ (HK.out.below hS)).mono ?_
  rintro e w2 ⟨rfl, hb⟩
  have HS2 := aM' (And.intro (hS.trans (hb.mono hS.size)) (blk_below (blk_alloc HS1.out.2 _) hb))
  have HN2 := aM' (blk_below (blk_new w1 (.cells (nodeA n) 28)) hb)
  generalize w1.heap.size = g1 at HN2 ⊢
  clear hb HS1 s0 s1 s2 a0 a1 a2 hS
  have a0 : ∀ o, (w2.alloc o).cell? ⟨w.heap.size, 0, none⟩ = some (.int .i64 lv) := fun o => blk_cell (blk_alloc HS2.out.2 o) 0
  have a1 : ∀ o, (w2.alloc o).cell? ⟨w.heap.size, 1, none⟩ = some (.int .u64 pl) := fun o => blk_cell (blk_alloc HS2.out.2 o) 1
  have a2 : ∀ o, (w2.alloc o).cell? ⟨w.heap.size, 2, none⟩ = some (.string t) := fun o => blk_cell (blk_alloc HS2.out.2 o) 2
  go_wp2_with fail
  have hS := below_alloc HS2.out.1 (.cells (nodeA n) 28)
  refine (E3.out _).mono ?_
  rintro e w3 ⟨rfl, hb⟩
  have HS3 := aM' (And.intro (hS.trans (hb.mono hS.size)) (blk_below (blk_alloc HS2.out.2 _) hb))
  have HM3 := aM' (blk_below (blk_new w2 (.cells (nodeA n) 28)) hb)
  have HN3 := aM' (blk_below (blk_alloc HN2.out (.cells (nodeA n) 28)) hb)
  generalize w2.heap.size = g2 at HM3 ⊢
  clear hb HS2 HN2 a0 a1 a2 hS
  have a0 : ∀ o o', ((w3.alloc o).alloc o').cell? ⟨w.heap.size, 0, none⟩ = some (.int .i64 lv) := fun o o' => blk_cell (blk_alloc (blk_alloc HS3.out.2 o) o') 0
  have a1 : ∀ o o', ((w3.alloc o).alloc o').cell? ⟨w.heap.size, 1, none⟩ = some (.int .u64 pl) := fun o o' => blk_cell (blk_alloc (blk_alloc HS3.out.2 o) o') 1
  have a2 : ∀ o o', ((w3.alloc o).alloc o').cell? ⟨w.heap.size, 2, none⟩ = some (.string t) := fun o o' => blk_cell (blk_alloc (blk_alloc HS3.out.2 o) o') 2
  go_wp2_with fail
  have hS := below_alloc (below_alloc HS3.out.1 (.cells (nodeA sl) 28)) (.cells (nodeA sr) 28)
  refine (E4.out _).mono ?_
  rintro e w4 ⟨rfl, hb⟩
  have hq := blk_new (w3.alloc (.cells (nodeA sl) 28)) (.cells (nodeA sr) 28)
  rw [World.size_alloc] at hq
  have HS4 := aM' (hS.trans (hb.mono hS.size))
  have HM4 := aM' (blk_below (blk_alloc (blk_alloc HM3.out (.cells (nodeA sl) 28)) (.cells (nodeA sr) 28)) hb)
  have HN4 := aM' (blk_below (blk_alloc (blk_alloc HN3.out (.cells (nodeA sl) 28)) (.cells (nodeA sr) 28)) hb)
  have HL4 := aM' (blk_below (blk_alloc (blk_new w3 (.cells (nodeA sl) 28)) (.cells (nodeA sr) 28)) hb)
  have HR4 := aM' (blk_below hq hb)
  generalize w3.heap.size = g3 at HL4 HR4 ⊢
  clear hb HS3 HM3 HN3 a0 a1 a2 hS hq
  go_upto_region 7 with (fail)
  obtain ⟨W5, hW⟩ : ∃ V, V = (w4.alloc (.cells (nodeA sl) 28)).alloc (.cells (nodeA sr) 28) := ⟨_, rfl⟩
  rw [← hW]
  have hq := blk_new (w4.alloc (.cells (nodeA sl) 28)) (.cells (nodeA sr) 28)
  rw [World.size_alloc, ← hW] at hq
  have hL := blk_alloc (blk_new w4 (.cells (nodeA sl) 28)) (.cells (nodeA sr) 28)
  rw [← hW] at hL
  have HS5 := aM' (show Below w.heap.size w W5 by rw [hW]; exact below_alloc (below_alloc HS4.out _) _)
  have hl : W5.heap[g3]? = some (.cells (nodeA sl) 28 (0, 0)) := by rw [hW]; exact blk_alloc (blk_alloc HL4.out _) _
  have hr : W5.heap[g3 + 1]? = some (.cells (nodeA sr) 28 (0, 0)) := by rw [hW]; exact blk_alloc (blk_alloc HR4.out _) _
  have hn : W5.heap[g1]? = some (.cells (nodeA n) 28 (0, 0)) := by rw [hW]; exact blk_alloc (blk_alloc HN4.out _) _
  have hm : W5.heap[g2]? = some (.cells (nodeA n) 28 (0, 0)) := by rw [hW]; exact blk_alloc (blk_alloc HM4.out _) _
  generalize w4.heap.size = g4 at hL hq ⊢
  generalize hg5 : g4 + 1 = g5 at hq ⊢
  generalize hg6 : g3 + 1 = g6 at hr ⊢
  clear hW hg5 hg6 HS4 HM4 HN4 HL4 HR4
  have n0 := blk_cell hn 0
  have n1 := blk_cell hn 1
  have n2 := blk_cell hn 2
  have m0 := blk_cell hm 0
  have m1 := blk_cell hm 1
  have m2 := blk_cell hm 2
  have l0 := blk_cell hl 0
  have l1 := blk_cell hl 1
  have l2 := blk_cell hl 2
  have r0 := blk_cell hr 0
  have r1 := blk_cell hr 1
  have r2 := blk_cell hr 2
  have p0 := blk_cell hL 0
  have p1 := blk_cell hL 1
  have p2 := blk_cell hL 2
  have q0 := blk_cell hq 0
  have q1 := blk_cell hq 1
  have q2 := blk_cell hq 2
  simp at n0 n1 n2 m0 m1 m2 l0 l1 l2 r0 r1 r2 p0 p1 p2 q0 q1 q2
  clear hl hr hn hm hL hq
  go_wp2
  go_ret
  exact ⟨by simp, HS5.out⟩
 ·
  have b0 : decide ((400 : Int) < (t.size : Int)) = true := decide_eq_true (by omega)
  have b1 : decide (400 < t.size) = true := decide_eq_true (by omega)
  clear h
  go_enter Tryd.func7, Tryd.ntmps7
  go_wp2
  go_ret
  exact ⟨rfl, below_alloc (Below.refl _ _) _⟩
end Go.Proofs.YtijfifphcchbbaaDoor.P
namespace Go.Proofs.YtijfifphcchbbaaDoor.P
open Go.RowKit Go.Proofs.YtijfifphcchbbaaDoorW.PrintWords Go.Proofs.YtijfifphcchbbaaDoorW.PrintLast Go.Proofs.YtijfifphcchbbaaDoorW.PrintMore
set_option linter.unusedVariables false
set_option linter.unusedSimpArgs false
set_option linter.unnecessarySimpa false
attribute [local go_sem] sel_true
/-! The law TraceCuts, walked. -/
abbrev stepZ : Array Value := #[.int .i64 0, .int .u64 0, .string ⟨#[]⟩]
/-- Three steps' boxes under way. -/
structure Tc3 (w0 W : World) (lv pl : Int) (t : ByteArray) (l : Nat → Bool) (γ7 γ8 γ9 : Nat) : Prop where
  hB : Below w0.heap.size w0 W
  h7 : l 3 = true → w0.heap.size ≤ γ7 ∧ γ7 < W.heap.size ∧ W.heap[γ7]? = some (.cells (if l 6 = true then stepA lv pl t else stepZ) 48 (0, 0))
  o7 : l 6 = true → l 3 = true
  h8 : l 4 = true → w0.heap.size ≤ γ8 ∧ γ8 < W.heap.size ∧ W.heap[γ8]? = some (.cells (if l 7 = true then stepA lv pl t else stepZ) 48 (0, 0))
  o8 : l 7 = true → l 4 = true
  h9 : l 5 = true → w0.heap.size ≤ γ9 ∧ γ9 < W.heap.size ∧ W.heap[γ9]? = some (.cells (if l 8 = true then stepA lv pl t else stepZ) 48 (0, 0))
  o9 : l 8 = true → l 5 = true
  n78 : l 3 = true → l 4 = true → γ7 ≠ γ8
  n79 : l 3 = true → l 5 = true → γ7 ≠ γ9
  n89 : l 4 = true → l 5 = true → γ8 ≠ γ9
theorem Tc3.start (w0 : World) (lv pl : Int) (t : ByteArray) (l : Nat → Bool) (h3 : l 3 = false) (h4 : l 4 = false) (h5 : l 5 = false) (h6 : l 6 = false) (h7 : l 7 = false) (h8 : l 8 = false) : Tc3 w0 w0.drew lv pl t l 0 0 0 :=
  ⟨below_drew (Below.refl _ _), (fun h => by rw [h3] at h; cases h), (fun h => by rw [h6] at h; cases h), (fun h => by rw [h4] at h; cases h), (fun h => by rw [h7] at h; cases h), (fun h => by rw [h5] at h; cases h), (fun h => by rw [h8] at h; cases h), (fun h => by rw [h3] at h; cases h), (fun h => by rw [h3] at h; cases h), (fun h => by rw [h4] at h; cases h)⟩
theorem upd_ne {l : Nat → Bool} {i j : Nat} (h : j ≠ i) : upd l i j = l j := by unfold upd; rw [if_neg h]
theorem Tc3.other {w0 W : World} {lv pl : Int} {t : ByteArray} {l : Nat → Bool} {γ7 γ8 γ9 : Nat} (h : Tc3 w0 W lv pl t l γ7 γ8 γ9) (i : Nat) (hi : i < 3) : Tc3 w0 W lv pl t (upd l i) γ7 γ8 γ9 := by
  refine ⟨h.hB, ?_, ?_, ?_, ?_, ?_, ?_, ?_, ?_, ?_⟩ <;> rw [upd_ne (by omega), upd_ne (by omega)]
  · exact h.h7
  · exact h.o7
  · exact h.h8
  · exact h.o8
  · exact h.h9
  · exact h.o9
  · exact h.n78
  · exact h.n79
  · exact h.n89
theorem Tc3.alloc7 {w0 W : World} {lv pl : Int} {t : ByteArray} {l : Nat → Bool} {γ7 γ8 γ9 : Nat} (h : Tc3 w0 W lv pl t l γ7 γ8 γ9) (hl : l 3 = false) : Tc3 w0 (W.alloc (.cells stepZ 48 (0, 0))) lv pl t (upd l 3) W.heap.size γ8 γ9 := by
  have hs : l 6 = false := by
    cases hx : l 6 with
    | false => rfl
    | true => rw [h.o7 hx] at hl; cases hl
  have es : upd l 3 6 = l 6 := rfl
  exact ⟨below_alloc h.hB _, (fun _ => ⟨h.hB.size, by rw [World.size_alloc]; omega, by rw [es, hs, if_neg (by decide)]; exact blk_new W _⟩), (fun _ => rfl), (fun hx => ⟨(h.h8 hx).1, by rw [World.size_alloc]; have := (h.h8 hx).2.1; omega, blk_alloc (h.h8 hx).2.2 _⟩), h.o8, (fun hx => ⟨(h.h9 hx).1, by rw [World.size_alloc]; have := (h.h9 hx).2.1; omega, blk_alloc (h.h9 hx).2.2 _⟩), h.o9, (fun _ hx => by have := (h.h8 hx).2.1; omega), (fun _ hx => by have := (h.h9 hx).2.1; omega), h.n89⟩
theorem Tc3.alloc8 {w0 W : World} {lv pl : Int} {t : ByteArray} {l : Nat → Bool} {γ7 γ8 γ9 : Nat} (h : Tc3 w0 W lv pl t l γ7 γ8 γ9) (hl : l 4 = false) : Tc3 w0 (W.alloc (.cells stepZ 48 (0, 0))) lv pl t (upd l 4) γ7 W.heap.size γ9 := by
  have hs : l 7 = false := by
    cases hx : l 7 with
    | false => rfl
    | true => rw [h.o8 hx] at hl; cases hl
  have es : upd l 4 7 = l 7 := rfl
  exact ⟨below_alloc h.hB _, (fun hx => ⟨(h.h7 hx).1, by rw [World.size_alloc]; have := (h.h7 hx).2.1; omega, blk_alloc (h.h7 hx).2.2 _⟩), h.o7, (fun _ => ⟨h.hB.size, by rw [World.size_alloc]; omega, by rw [es, hs, if_neg (by decide)]; exact blk_new W _⟩), (fun _ => rfl), (fun hx => ⟨(h.h9 hx).1, by rw [World.size_alloc]; have := (h.h9 hx).2.1; omega, blk_alloc (h.h9 hx).2.2 _⟩), h.o9, (fun hx _ => by have := (h.h7 hx).2.1; omega), h.n79, (fun _ hx => by have := (h.h9 hx).2.1; omega)⟩
theorem Tc3.alloc9 {w0 W : World} {lv pl : Int} {t : ByteArray} {l : Nat → Bool} {γ7 γ8 γ9 : Nat} (h : Tc3 w0 W lv pl t l γ7 γ8 γ9) (hl : l 5 = false) : Tc3 w0 (W.alloc (.cells stepZ 48 (0, 0))) lv pl t (upd l 5) γ7 γ8 W.heap.size := by
  have hs : l 8 = false := by
    cases hx : l 8 with
    | false => rfl
    | true => rw [h.o9 hx] at hl; cases hl
  have es : upd l 5 8 = l 8 := rfl
  exact ⟨below_alloc h.hB _, (fun hx => ⟨(h.h7 hx).1, by rw [World.size_alloc]; have := (h.h7 hx).2.1; omega, blk_alloc (h.h7 hx).2.2 _⟩), h.o7, (fun hx => ⟨(h.h8 hx).1, by rw [World.size_alloc]; have := (h.h8 hx).2.1; omega, blk_alloc (h.h8 hx).2.2 _⟩), h.o8, (fun _ => ⟨h.hB.size, by rw [World.size_alloc]; omega, by rw [es, hs, if_neg (by decide)]; exact blk_new W _⟩), (fun _ => rfl), h.n78, (fun hx _ => by have := (h.h7 hx).2.1; omega), (fun hx _ => by have := (h.h8 hx).2.1; omega)⟩
theorem putStep {W : World} {g : Nat} (h : W.heap[g]? = some (.cells stepZ 48 (0, 0))) (lv pl : Int) (t : ByteArray) : (((W.setCell ⟨g, 0, none⟩ (.int .i64 lv)).setCell ⟨g, 1, none⟩ (.int .u64 pl)).setCell ⟨g, 2, none⟩ (.string t)).heap[g]? = some (.cells (stepA lv pl t) 48 (0, 0)) :=
  blk_put (cs' := stepA lv pl t) (blk_put (cs' := stepA lv pl ⟨#[]⟩) (blk_put (cs' := stepA lv 0 ⟨#[]⟩) h 0 (.int .i64 lv) rfl) 1 (.int .u64 pl) rfl) 2 (.string t) rfl
theorem far3s {W : World} {g g' : Nat} {o : Obj} (h : W.heap[g']? = some o) (hn : g' ≠ g) (a b c : Value) : (((W.setCell ⟨g, 0, none⟩ a).setCell ⟨g, 1, none⟩ b).setCell ⟨g, 2, none⟩ c).heap[g']? = some o :=
  (Below.heap_setCell _ _ _ _ hn).trans ((Below.heap_setCell _ _ _ _ hn).trans ((Below.heap_setCell _ _ _ _ hn).trans h))
theorem Tc3.store7 {w0 W : World} {lv pl : Int} {t : ByteArray} {l : Nat → Bool} {γ7 γ8 γ9 : Nat} (h : Tc3 w0 W lv pl t l γ7 γ8 γ9) (ha : l 3 = true) (hl : l 6 = false) : Tc3 w0 (((W.setCell ⟨γ7, 0, none⟩ (.int .i64 lv)).setCell ⟨γ7, 1, none⟩ (.int .u64 pl)).setCell ⟨γ7, 2, none⟩ (.string t)) lv pl t (upd l 6) γ7 γ8 γ9 := by
  obtain ⟨h1, h2, h3⟩ := h.h7 ha
  rw [hl, if_neg (by decide)] at h3
  exact ⟨below_set (below_set (below_set h.hB h1) h1) h1, (fun _ => ⟨h1, by simpa using h2, putStep h3 lv pl t⟩), (fun _ => ha), (fun hx => ⟨(h.h8 hx).1, by simpa using (h.h8 hx).2.1, far3s (h.h8 hx).2.2 (h.n78 ha hx).symm _ _ _⟩), h.o8, (fun hx => ⟨(h.h9 hx).1, by simpa using (h.h9 hx).2.1, far3s (h.h9 hx).2.2 (h.n79 ha hx).symm _ _ _⟩), h.o9, h.n78, h.n79, h.n89⟩
theorem Tc3.store8 {w0 W : World} {lv pl : Int} {t : ByteArray} {l : Nat → Bool} {γ7 γ8 γ9 : Nat} (h : Tc3 w0 W lv pl t l γ7 γ8 γ9) (ha : l 4 = true) (hl : l 7 = false) : Tc3 w0 (((W.setCell ⟨γ8, 0, none⟩ (.int .i64 lv)).setCell ⟨γ8, 1, none⟩ (.int .u64 pl)).setCell ⟨γ8, 2, none⟩ (.string t)) lv pl t (upd l 7) γ7 γ8 γ9 := by
  obtain ⟨h1, h2, h3⟩ := h.h8 ha
  rw [hl, if_neg (by decide)] at h3
  exact ⟨below_set (below_set (below_set h.hB h1) h1) h1, (fun hx => ⟨(h.h7 hx).1, by simpa using (h.h7 hx).2.1, far3s (h.h7 hx).2.2 (h.n78 hx ha) _ _ _⟩), h.o7, (fun _ => ⟨h1, by simpa using h2, putStep h3 lv pl t⟩), (fun _ => ha), (fun hx => ⟨(h.h9 hx).1, by simpa using (h.h9 hx).2.1, far3s (h.h9 hx).2.2 (h.n89 ha hx).symm _ _ _⟩), h.o9, h.n78, h.n79, h.n89⟩
theorem Tc3.store9 {w0 W : World} {lv pl : Int} {t : ByteArray} {l : Nat → Bool} {γ7 γ8 γ9 : Nat} (h : Tc3 w0 W lv pl t l γ7 γ8 γ9) (ha : l 5 = true) (hl : l 8 = false) : Tc3 w0 (((W.setCell ⟨γ9, 0, none⟩ (.int .i64 lv)).setCell ⟨γ9, 1, none⟩ (.int .u64 pl)).setCell ⟨γ9, 2, none⟩ (.string t)) lv pl t (upd l 8) γ7 γ8 γ9 := by
  obtain ⟨h1, h2, h3⟩ := h.h9 ha
  rw [hl, if_neg (by decide)] at h3
  exact ⟨below_set (below_set (below_set h.hB h1) h1) h1, (fun hx => ⟨(h.h7 hx).1, by simpa using (h.h7 hx).2.1, far3s (h.h7 hx).2.2 (h.n79 hx ha) _ _ _⟩), h.o7, (fun hx => ⟨(h.h8 hx).1, by simpa using (h.h8 hx).2.1, far3s (h.h8 hx).2.2 (h.n89 hx ha) _ _ _⟩), h.o8, (fun _ => ⟨h1, by simpa using h2, putStep h3 lv pl t⟩), (fun _ => ha), h.n78, h.n79, h.n89⟩
/-- The last text under way. -/
structure Tc6 (w V W : World) (lv pl : Int) (t : ByteArray) (c : Int) (cb tr : ByteArray) (γ9 : Nat) (l : Nat → Bool) (γ : Nat) : Prop where
  hb : l 8 = false → Below V.heap.size V W
  hg : l 1 = true → l 8 = false → W.heap[γ]? = some (.cells #[.int .u8 c] 5 (0, 0))
  h9 : W.heap[γ9]? = some (.cells (stepA lv pl (if l 8 = true then cb ++ tr else t)) 48 (0, 0))
  h0 : W.heap[w.heap.size]? = some (.cells (stepA lv pl t) 48 (0, 0))
  hk : ∀ k, k < V.heap.size → k ≠ γ9 → W.heap[k]? = V.heap[k]?
  hB : Below w.heap.size w W
  hz : V.heap.size ≤ W.heap.size
  hn : γ9 ≠ w.heap.size
  hl : w.heap.size < γ9
  ho : l 8 = true → ∀ i, i < 8 → l i = true
theorem Tc6.no {w V W : World} {lv pl : Int} {t : ByteArray} {c : Int} {cb tr : ByteArray} {γ9 γ : Nat} {l : Nat → Bool} (h : Tc6 w V W lv pl t c cb tr γ9 l γ) {i : Nat} (hi : i < 8) (hl : l i = false) : l 8 = false := by
  cases h7 : l 8 with
  | false => rfl
  | true => rw [h.ho h7 i hi] at hl; cases hl
theorem Tc6.other {w V W : World} {lv pl : Int} {t : ByteArray} {c : Int} {cb tr : ByteArray} {γ9 γ : Nat} {l : Nat → Bool} (h : Tc6 w V W lv pl t c cb tr γ9 l γ) (i : Nat) (hi : i < 8) (h1 : i ≠ 1) (hl : l i = false) : Tc6 w V W lv pl t c cb tr γ9 (upd l i) γ := by
  have h7 := h.no hi hl
  have e : upd l i 8 = l 8 := upd_ne (by omega)
  have e1 : upd l i 1 = l 1 := upd_ne (by omega)
  refine ⟨fun _ => h.hb h7, fun h' _ => h.hg (by rw [← e1]; exact h') h7, by rw [e]; exact h.h9, h.h0, h.hk, h.hB, h.hz, h.hn, h.hl, fun h' => by rw [e, h7] at h'; cases h'⟩
theorem Tc6.drew {w V W : World} {lv pl : Int} {t : ByteArray} {c : Int} {cb tr : ByteArray} {γ9 γ : Nat} {l : Nat → Bool} (h : Tc6 w V W lv pl t c cb tr γ9 l γ) (h7 : l 8 = false) (h1 : l 1 = false) : Tc6 w V W.drew lv pl t c cb tr γ9 l γ :=
  ⟨fun _ => below_drew (h.hb h7), (fun h' => by rw [h1] at h'; cases h'), h.h9, h.h0, h.hk, below_drew h.hB, h.hz, h.hn, h.hl, h.ho⟩
theorem Tc6.made {w V W : World} {lv pl : Int} {t : ByteArray} {c : Int} {cb tr : ByteArray} {γ9 γ : Nat} {l : Nat → Bool} (h : Tc6 w V W lv pl t c cb tr γ9 l γ) (hl : l 1 = false) : Tc6 w V (W.alloc (.cells #[.int .u8 c] 5 (0, 0))) lv pl t c cb tr γ9 (upd l 1) W.heap.size := by
  have h7 := h.no (show 1 < 8 by decide) hl
  have e : upd l 1 8 = l 8 := rfl
  refine ⟨fun _ => below_alloc (h.hb h7) _, fun _ _ => blk_new W _, by rw [e]; exact blk_alloc h.h9 _, blk_alloc h.h0 _, fun k hk hn => by rw [← h.hk k hk hn]; exact (below_alloc (Below.refl _ _) _).block k (Nat.lt_of_lt_of_le hk h.hz), below_alloc h.hB _, by rw [World.size_alloc]; have := h.hz; omega, h.hn, h.hl, fun h' => by rw [e, h7] at h'; cases h'⟩
theorem Tc6.store {w V W : World} {lv pl : Int} {t : ByteArray} {c : Int} {cb tr : ByteArray} {γ9 γ : Nat} {l : Nat → Bool} (h : Tc6 w V W lv pl t c cb tr γ9 l γ) (hl : l 8 = false) (ha : ∀ i, i < 8 → l i = true) : Tc6 w V (W.setCell ⟨γ9, 2, none⟩ (.string (cb ++ tr))) lv pl t c cb tr γ9 (upd l 8) γ := by
  have e : upd l 8 8 = true := rfl
  have h9 := h.h9
  refine ⟨(fun h' => by rw [e] at h'; cases h'), (fun _ h' => by rw [e] at h'; cases h'), ?_, blk_far h.h0 (Ne.symm h.hn) _, fun k hk hn => (Below.heap_setCell _ _ _ _ hn).trans (h.hk k hk hn), h.hB.setCell (Nat.le_of_lt h.hl) _, by simpa using h.hz, h.hn, h.hl, fun _ i hi => by rw [upd_ne (by omega)]; exact ha i hi⟩
  rw [e, if_pos rfl]
  exact blk_put (cs' := stepA lv pl (cb ++ tr)) h9 2 (.string (cb ++ tr)) rfl
set_option maxRecDepth 100000 in
set_option maxHeartbeats 4000000 in
theorem lawTC.calls (wd lv pl : Int) (t : ByteArray) (c : Int) (w : World) (hK : LaidT w) (hc : 0 ≤ c ∧ c < 256) :
    Calls Tryd.prog 8 #[.int .i64 wd, .agg #[.int .i64 lv, .int .u64 pl, .string t], .int .u8 c] w fun e w' => e = .returned (.bool true) ∧ Below w.heap.size w w' := by
  have hu3 := Tryd.underlying48
  have HK := Aside0.mk hK
  have HC := Aside0.mk hc
  clear hK hc
  by_cases h : t.size ≤ 400 ∧ 0 < t.size
  · have b0 : decide ((400 : Int) < (t.size : Int)) = false := decide_eq_false (by omega)
    have b1 : decide (400 < t.size) = false := decide_eq_false (by omega)
    have b2 : ((t.size : Int) == 0) = false := by have := h.2; exact beq_eq_false_iff_ne.2 (by omega)
    have g1 : 0 < t.size := h.2
    go_enter Tryd.func8, Tryd.ntmps8
    obtain ⟨W1, hW1⟩ : ∃ V, V = w.alloc (.cells (stepA lv pl t) 48) := ⟨_, rfl⟩
    have HS : Aside0 (Below w.heap.size w W1 ∧ W1.heap[w.heap.size]? = some (.cells (stepA lv pl t) 48 (0, 0))) := ⟨by rw [hW1]; exact ⟨below_alloc (Below.refl _ _) _, blk_new _ _⟩⟩
    have H4 := Aside0.mk h
    clear h
    go_upto_region 3 with (fail)
    rw [← hW1]
    clear hW1
    refine region_inv (fun l a W => ∃ γ7 : Nat, ∃ γ8 : Nat, ∃ γ9 : Nat, a = ({ tmps := #[.int .i64 wd, .agg #[.int .i64 lv, .int .u64 pl, .string t], .int .u8 c, undef, .pointer (some ⟨w.heap.size, 0, none⟩), undef, .bool false, sel (l 3) (.pointer (some ⟨γ7, 0, none⟩)) (undef), sel (l 4) (.pointer (some ⟨γ8, 0, none⟩)) (undef), sel (l 5) (.pointer (some ⟨γ9, 0, none⟩)) (undef), .pointer (some ⟨w.heap.size, 2, none⟩), .string t, .int .i64 (t.size : Int), .bool false, .bool false, .pointer (some ⟨w.heap.size, 2, none⟩), .string t, .int .i64 (t.size : Int), .bool false, .bool false, sel (l 0) (.agg #[.int .i64 lv, .int .u64 pl, .string t]) (undef), sel (l 1) (.agg #[.int .i64 lv, .int .u64 pl, .string t]) (undef), sel (l 2) (.agg #[.int .i64 lv, .int .u64 pl, .string t]) (undef), undef, undef, undef, undef, undef, undef, undef, undef, undef, undef, undef, undef, undef, undef, undef, undef, undef, undef, undef, undef, undef, undef, undef, undef, undef, undef, undef, undef, undef, undef, undef, undef, undef, undef, undef, undef], defers := [] } : Act) ∧ Tc3 W1 W lv pl t l γ7 γ8 γ9) 9 rfl rfl (by kernel_rfl) ?h0 ?hend ?hstep
    case h0 => exact ⟨0, 0, 0, rfl, Tc3.start _ _ _ _ _ rfl rfl rfl rfl rfl rfl⟩
    case hstep =>
      refine rg_cons (rg_cons (rg_cons (rg_cons (rg_cons (rg_cons (rg_cons (rg_cons (rg_cons (rg_nil) ?s0) ?s1) ?s2) ?s3) ?s4) ?s5) ?s6) ?s7) ?s8
      case s0 =>
        refine rg_step rfl ?_
        rintro l a W ⟨γ7, γ8, γ9, rfl, hI⟩ hl hd
        clear hd
        have x0 := blk_cell (blk_below HS.out.2 hI.hB) 0
        have x1 := blk_cell (blk_below HS.out.2 hI.hB) 1
        have x2 := blk_cell (blk_below HS.out.2 hI.hB) 2
        simp at x0 x1 x2
        refine rg_val (v := .agg #[.int .i64 lv, .int .u64 pl, .string t]) (w' := W) rfl (by go_simp) ?_
        refine ⟨γ7, γ8, γ9, ?_, ?_⟩
        · simp only [Act.put, List.setIfInBounds_toArray, List.set_cons_zero, List.set_cons_succ]; rfl
        · exact hI.other 0 (by decide)
      case s1 =>
        refine rg_step rfl ?_
        rintro l a W ⟨γ7, γ8, γ9, rfl, hI⟩ hl hd
        clear hd
        have x0 := blk_cell (blk_below HS.out.2 hI.hB) 0
        have x1 := blk_cell (blk_below HS.out.2 hI.hB) 1
        have x2 := blk_cell (blk_below HS.out.2 hI.hB) 2
        simp at x0 x1 x2
        refine rg_val (v := .agg #[.int .i64 lv, .int .u64 pl, .string t]) (w' := W) rfl (by go_simp) ?_
        refine ⟨γ7, γ8, γ9, ?_, ?_⟩
        · simp only [Act.put, List.setIfInBounds_toArray, List.set_cons_zero, List.set_cons_succ]; rfl
        · exact hI.other 1 (by decide)
      case s2 =>
        refine rg_step rfl ?_
        rintro l a W ⟨γ7, γ8, γ9, rfl, hI⟩ hl hd
        clear hd
        have x0 := blk_cell (blk_below HS.out.2 hI.hB) 0
        have x1 := blk_cell (blk_below HS.out.2 hI.hB) 1
        have x2 := blk_cell (blk_below HS.out.2 hI.hB) 2
        simp at x0 x1 x2
        refine rg_val (v := .agg #[.int .i64 lv, .int .u64 pl, .string t]) (w' := W) rfl (by go_simp) ?_
        refine ⟨γ7, γ8, γ9, ?_, ?_⟩
        · simp only [Act.put, List.setIfInBounds_toArray, List.set_cons_zero, List.set_cons_succ]; rfl
        · exact hI.other 2 (by decide)
      case s3 =>
        refine rg_step rfl ?_
        rintro l a W ⟨γ7, γ8, γ9, rfl, hI⟩ hl hd
        clear hd
        refine rg_val (v := .pointer (some ⟨W.heap.size, 0, none⟩)) (w' := W.alloc (.cells #[.int .i64 0, .int .u64 0, .string ⟨#[]⟩] 48 (0, 0))) rfl (by go_simp) ?_
        refine ⟨W.heap.size, γ8, γ9, ?_, ?_⟩
        · simp only [Act.put, List.setIfInBounds_toArray, List.set_cons_zero, List.set_cons_succ]; rfl
        · exact hI.alloc7 hl
      case s4 =>
        refine rg_step rfl ?_
        rintro l a W ⟨γ7, γ8, γ9, rfl, hI⟩ hl hd
        clear hd
        refine rg_val (v := .pointer (some ⟨W.heap.size, 0, none⟩)) (w' := W.alloc (.cells #[.int .i64 0, .int .u64 0, .string ⟨#[]⟩] 48 (0, 0))) rfl (by go_simp) ?_
        refine ⟨γ7, W.heap.size, γ9, ?_, ?_⟩
        · simp only [Act.put, List.setIfInBounds_toArray, List.set_cons_zero, List.set_cons_succ]; rfl
        · exact hI.alloc8 hl
      case s5 =>
        refine rg_step rfl ?_
        rintro l a W ⟨γ7, γ8, γ9, rfl, hI⟩ hl hd
        clear hd
        refine rg_val (v := .pointer (some ⟨W.heap.size, 0, none⟩)) (w' := W.alloc (.cells #[.int .i64 0, .int .u64 0, .string ⟨#[]⟩] 48 (0, 0))) rfl (by go_simp) ?_
        refine ⟨γ7, γ8, W.heap.size, ?_, ?_⟩
        · simp only [Act.put, List.setIfInBounds_toArray, List.set_cons_zero, List.set_cons_succ]; rfl
        · exact hI.alloc9 hl
      case s6 =>
        refine rg_step rfl ?_
        rintro l a W ⟨γ7, γ8, γ9, rfl, hI⟩ hl hd
        have d0 := hd 0 (by decide)
        have d3 := hd 3 (by decide)
        clear hd
        have hg := (hI.h7 d3).2.2
        rw [show l 6 = false from hl, if_neg (by decide)] at hg
        have y0 := blk_cell hg 0
        have y1 := blk_cell hg 1
        have y2 := blk_cell hg 2
        have yf := fun i => blk_frozen hg i
        simp at y0 y1 y2
        refine rg_skip rfl (by go_simp; rfl) ?_
        refine ⟨γ7, γ8, γ9, ?_, ?_⟩
        · simp only [Act.put, List.setIfInBounds_toArray, List.set_cons_zero, List.set_cons_succ]; rfl
        · exact hI.store7 d3 hl
      case s7 =>
        refine rg_step rfl ?_
        rintro l a W ⟨γ7, γ8, γ9, rfl, hI⟩ hl hd
        have d1 := hd 1 (by decide)
        have d4 := hd 4 (by decide)
        clear hd
        have hg := (hI.h8 d4).2.2
        rw [show l 7 = false from hl, if_neg (by decide)] at hg
        have y0 := blk_cell hg 0
        have y1 := blk_cell hg 1
        have y2 := blk_cell hg 2
        have yf := fun i => blk_frozen hg i
        simp at y0 y1 y2
        refine rg_skip rfl (by go_simp; rfl) ?_
        refine ⟨γ7, γ8, γ9, ?_, ?_⟩
        · simp only [Act.put, List.setIfInBounds_toArray, List.set_cons_zero, List.set_cons_succ]; rfl
        · exact hI.store8 d4 hl
      case s8 =>
        refine rg_step rfl ?_
        rintro l a W ⟨γ7, γ8, γ9, rfl, hI⟩ hl hd
        have d2 := hd 2 (by decide)
        have d5 := hd 5 (by decide)
        clear hd
        have hg := (hI.h9 d5).2.2
        rw [show l 8 = false from hl, if_neg (by decide)] at hg
        have y0 := blk_cell hg 0
        have y1 := blk_cell hg 1
        have y2 := blk_cell hg 2
        have yf := fun i => blk_frozen hg i
        simp at y0 y1 y2
        refine rg_skip rfl (by go_simp; rfl) ?_
        refine ⟨γ7, γ8, γ9, ?_, ?_⟩
        · simp only [Act.put, List.setIfInBounds_toArray, List.set_cons_zero, List.set_cons_succ]; rfl
        · exact hI.store9 d5 hl
    case hend =>
      rintro l a W ⟨γ7, γ8, γ9, rfl, hI⟩ hall
      have e0 := hall 0 (by decide)
      have e1 := hall 1 (by decide)
      have e2 := hall 2 (by decide)
      have e3 := hall 3 (by decide)
      have e4 := hall 4 (by decide)
      have e5 := hall 5 (by decide)
      have e6 := hall 6 (by decide)
      have e7 := hall 7 (by decide)
      have e8 := hall 8 (by decide)
      clear hall
      have H7 := hI.h7 e3
      have H8 := hI.h8 e4
      have H9 := hI.h9 e5
      have n78 := hI.n78 e3 e4
      have n79 := hI.n79 e3 e5
      have n89 := hI.n89 e4 e5
      rw [if_pos e6] at H7
      rw [if_pos e7] at H8
      rw [if_pos e8] at H9
      simp only [e0, e1, e2, e3, e4, e5, e6, e7, e8, sel_true]
      clear e0 e1 e2 e3 e4 e5 e6 e7 e8
      have hV := hI.hB
      have HS3 := Aside0.mk (And.intro (HS.out.1.trans (hV.mono HS.out.1.size)) (blk_below HS.out.2 hV))
      have hlt := blk_lt HS.out.2
      have hx7 := H7.1
      have hx8 := H8.1
      have hx9 := H9.1
      have hy7 := H7.2.2
      have hy8 := H8.2.2
      have hy9 := H9.2.2
      have n07 : γ7 ≠ w.heap.size := by omega
      have n08 : γ8 ≠ w.heap.size := by omega
      have n09 : γ9 ≠ w.heap.size := by omega
      have G7 := Aside0.mk (show w.heap.size < γ7 by omega)
      have G8 := Aside0.mk (show w.heap.size < γ8 by omega)
      have G9 := Aside0.mk (show w.heap.size < γ9 by omega)
      have G7' := Aside0.mk H7.2.1
      have G8' := Aside0.mk H8.2.1
      have G9' := Aside0.mk H9.2.1
      have Y7 := Aside0.mk hy7
      have Y8 := Aside0.mk hy8
      have Y9 := Aside0.mk hy9
      clear H7 H8 H9 hI hV hlt hx7 hx8 hx9 hy7 hy8 hy9
      have a0 := blk_cell HS3.out.2 0
      have a1 := blk_cell HS3.out.2 1
      have a2 := blk_cell HS3.out.2 2
      have z7 := blk_cell Y7.out 2
      have z8 := blk_cell Y8.out 2
      have z9 := blk_cell Y9.out 2
      have f7 := fun i => blk_frozen Y7.out i
      have f8 := fun i => blk_frozen Y8.out i
      have f9 := fun i => blk_frozen Y9.out i
      simp at a0 a1 a2 z7 z8 z9
      have n87 := n78.symm
      have n97 := n79.symm
      have n98 := n89.symm
      have n70 := n07.symm
      have n80 := n08.symm
      have n90 := n09.symm
      have w1 : wrap64 ((t.size : Int) - 1) = (t.size : Int) - 1 := by have := H4.out; exact wrap64_id (by omega) (by omega)
      obtain ⟨tl, htl⟩ : ∃ x, x = t.extract 0 ((t.size : Int) - 1).toNat := ⟨_, rfl⟩
      have s1 : ∀ wx : World, (Instr.slice 9 (.string t) none (some (.int .i64 ((t.size : Int) - 1))) none).run Tryd.prog wx = .ok (.string tl) wx := fun wx => by
        have := H4.out
        rw [run_slice_string_to_if wx 9 t .i64 ((t.size : Int) - 1) Tryd.underlying9, if_pos (by omega), htl]
      clear htl
      go_upto_region 5 with (fail)
      obtain ⟨V4, hV4⟩ : ∃ V, V = W.setCell ⟨γ7, 2, none⟩ (.string tl) := ⟨_, rfl⟩
      rw [← hV4]
      have hq7 := blk_put (cs' := stepA lv pl tl) Y7.out 2 (.string tl) rfl
      have hq8 := blk_far Y8.out n87 (p := ⟨γ7, 2, none⟩) (.string tl)
      have hq9 := blk_far Y9.out n97 (p := ⟨γ7, 2, none⟩) (.string tl)
      have hq0 := blk_far HS3.out.2 n70 (p := ⟨γ7, 2, none⟩) (.string tl)
      have hB4 := HS3.out.1.setCell (p := ⟨γ7, 2, none⟩) (Nat.le_of_lt G7.out) (.string tl)
      rw [← hV4] at hq7 hq8 hq9 hq0 hB4
      have hs4 : V4.heap.size = W.heap.size := by rw [hV4]; simp
      have HN4 := Aside0.mk hs4
      clear hV4 hs4 a0 a1 a2 z7 z8 z9 f7 f8 f9 s1
      have Q7 := Aside0.mk hq7
      have Q8 := Aside0.mk hq8
      have Q9 := Aside0.mk hq9
      have Q0 := Aside0.mk hq0
      have HB4 := Aside0.mk hB4
      have hsz : (strOfNums [c]).size = 1 := rfl
      have hcv := run_convert_bytes_arg (P := Tryd.prog) (w := V4.alloc (.cells #[.int .u8 c] 5)) 54 5 Tryd.underlying54 Tryd.underlying5 V4.heap.size 0 1 1 [c] rfl (fun i hi => by obtain rfl : i = 0 := (by omega); exact blk_cell (blk_new V4 _) 0) 9 Tryd.underlying9
      have HCV := fun (X : World) (g : Nat) (hg : X.heap[g]? = some (.cells #[.int .u8 c] 5 (0, 0))) => run_convert_bytes_arg (P := Tryd.prog) (w := X) 54 5 Tryd.underlying54 Tryd.underlying5 g 0 1 1 [c] rfl (fun i hi => by obtain rfl : i = 0 := (by omega); exact blk_cell hg 0) 9 Tryd.underlying9
      generalize strOfNums [c] = cb at hcv hsz HCV
      have HCV := Aside0.mk HCV
      have b5 : (9223372036854775807 < t.size + cb.size) = False := eq_false (by have := H4.out; omega)
      have HSZ := Aside0.mk hsz
      clear hsz
      clear hq7 hq8 hq9 hq0 hB4
      have a2 : ∀ i : Nat, i = 2 → V4.cell? ⟨w.heap.size, i, none⟩ = some (.string t) := fun i hi => by rw [hi]; exact blk_cell Q0.out 2
      have a3 := a2 2 rfl
      clear a2
      have z8 := blk_cell (blk_alloc Q8.out (.cells #[.int .u8 c] 5)) 2
      have f8 := fun i => blk_frozen (blk_alloc Q8.out (.cells #[.int .u8 c] 5)) i
      simp at z8
      go_upto_region 6 with (fail)
      obtain ⟨V6, hV6⟩ : ∃ V, V = (V4.alloc (.cells #[.int .u8 c] 5)).setCell ⟨γ8, 2, none⟩ (.string (t ++ cb)) := ⟨_, rfl⟩
      rw [← hV6]
      have hq8 := blk_put (cs' := stepA lv pl (t ++ cb)) (blk_alloc Q8.out (.cells #[.int .u8 c] 5)) 2 (.string (t ++ cb)) rfl
      have hq7 := blk_far (blk_alloc Q7.out (.cells #[.int .u8 c] 5)) n78 (p := ⟨γ8, 2, none⟩) (.string (t ++ cb))
      have hq9 := blk_far (blk_alloc Q9.out (.cells #[.int .u8 c] 5)) n98 (p := ⟨γ8, 2, none⟩) (.string (t ++ cb))
      have hq0 := blk_far (blk_alloc Q0.out (.cells #[.int .u8 c] 5)) n80 (p := ⟨γ8, 2, none⟩) (.string (t ++ cb))
      have hB6 := (below_alloc HB4.out (.cells #[.int .u8 c] 5)).setCell (p := ⟨γ8, 2, none⟩) (Nat.le_of_lt G8.out) (.string (t ++ cb))
      rw [← hV6] at hq7 hq8 hq9 hq0 hB6
      clear hV6 z8 f8 a3 hcv
      obtain ⟨tr, htr⟩ : ∃ x, x = t.extract 1 t.size := ⟨_, rfl⟩
      have hts : tr.size ≤ 400 := by rw [htr, ByteArray.size_extract]; have := H4.out; omega
      have s1 : ∀ wx : World, (Instr.slice 9 (.string t) (some (.int .i64 1)) none none).run Tryd.prog wx = .ok (.string tr) wx := fun wx => by
        have := H4.out
        rw [run_slice_string_from_if wx 9 t .i64 1 Tryd.underlying9, if_pos (by omega), htr]
        rfl
      have b6 : (9223372036854775807 < cb.size + tr.size) = False := eq_false (by have := HSZ.out; omega)
      clear htr hts b5
      have Q7 := Aside0.mk hq7
      have Q8 := Aside0.mk hq8
      have HT6 := Aside0.mk (show Tc6 w V6 V6 lv pl t c cb tr γ9 (fun _ => false) 0 from ⟨fun _ => Below.refl _ _, (fun h => by cases h), hq9, hq0, fun k _ _ => rfl, hB6, Nat.le_refl _, Ne.symm n90, G9.out, (fun h => by cases h)⟩)
      clear hq7 hq8 hq9 hq0 hB6
      refine region_inv (fun l a W => ∃ γ : Nat, a = ({ tmps := #[.int .i64 wd, .agg #[.int .i64 lv, .int .u64 pl, .string t], .int .u8 c, undef, .pointer (some ⟨w.heap.size, 0, none⟩), undef, .bool false, .pointer (some ⟨γ7, 0, none⟩), .pointer (some ⟨γ8, 0, none⟩), .pointer (some ⟨γ9, 0, none⟩), .pointer (some ⟨w.heap.size, 2, none⟩), .string t, .int .i64 (t.size : Int), .bool false, .bool false, .pointer (some ⟨w.heap.size, 2, none⟩), .string t, .int .i64 (t.size : Int), .bool false, .bool false, .agg #[.int .i64 lv, .int .u64 pl, .string t], .agg #[.int .i64 lv, .int .u64 pl, .string t], .agg #[.int .i64 lv, .int .u64 pl, .string t], .pointer (some ⟨w.heap.size, 2, none⟩), .string t, .pointer (some ⟨w.heap.size, 2, none⟩), .string t, .int .i64 (t.size : Int), .int .i64 (wrap64 ((t.size : Int) - 1)), .string tl, .pointer (some ⟨γ7, 2, none⟩), .pointer (some ⟨w.heap.size, 2, none⟩), .string t, .int .u8 c, .slice (some ⟨V4.heap.size, 0, none⟩) 1 1, .string cb, .string (t ++ cb), .pointer (some ⟨γ8, 2, none⟩), sel (l 0) (.int .u8 c) (undef), sel (l 1) (.slice (some ⟨γ, 0, none⟩) 1 1) (undef), sel (l 2) (.string cb) (undef), sel (l 3) (.pointer (some ⟨w.heap.size, 2, none⟩)) (undef), sel (l 4) (.string t) (undef), sel (l 5) (.string tr) (undef), sel (l 6) (.string (cb ++ tr)) (undef), sel (l 7) (.pointer (some ⟨γ9, 2, none⟩)) (undef), undef, undef, undef, undef, undef, undef, undef, undef, undef, undef, undef, undef, undef], defers := [] } : Act) ∧ Tc6 w V6 W lv pl t c cb tr γ9 l γ) 9 rfl rfl (by kernel_rfl) ?h0 ?hend ?hstep
      case h0 => exact ⟨0, rfl, HT6.out.drew rfl rfl⟩
      case hstep =>
        refine rg_cons (rg_cons (rg_cons (rg_cons (rg_cons (rg_cons (rg_cons (rg_cons (rg_cons (rg_nil) ?s0) ?s1) ?s2) ?s3) ?s4) ?s5) ?s6) ?s7) ?s8
        case s0 =>
          refine rg_step rfl ?_
          rintro l a W ⟨γ, rfl, hI⟩ hl hd
          clear hd
          refine rg_val (v := .int .u8 c) (w' := W) rfl (by go_simp) ?_
          refine ⟨γ, ?_, ?_⟩
          · simp only [Act.put, List.setIfInBounds_toArray, List.set_cons_zero, List.set_cons_succ]; rfl
          · exact hI.other 0 (by decide) (by decide) hl
        case s1 =>
          refine rg_step rfl ?_
          rintro l a W ⟨γ, rfl, hI⟩ hl hd
          have d0 := hd 0 (by decide)
          clear hd
          refine rg_val (v := .slice (some ⟨W.heap.size, 0, none⟩) 1 1) (w' := W.alloc (.cells #[.int .u8 c] 5 (0, 0))) rfl (by go_simp) ?_
          refine ⟨W.heap.size, ?_, ?_⟩
          · simp only [Act.put, List.setIfInBounds_toArray, List.set_cons_zero, List.set_cons_succ]; rfl
          · exact hI.made hl
        case s2 =>
          refine rg_step rfl ?_
          rintro l a W ⟨γ, rfl, hI⟩ hl hd
          have d1 := hd 1 (by decide)
          clear hd
          have hcv := HCV.out W γ (hI.hg d1 (hI.no (show 2 < 8 by decide) hl))
          refine rg_val (v := .string cb) (w' := W) rfl (by go_simp) ?_
          refine ⟨γ, ?_, ?_⟩
          · simp only [Act.put, List.setIfInBounds_toArray, List.set_cons_zero, List.set_cons_succ]; rfl
          · exact hI.other 2 (by decide) (by decide) hl
        case s3 =>
          refine rg_step rfl ?_
          rintro l a W ⟨γ, rfl, hI⟩ hl hd
          clear hd
          refine rg_val (v := .pointer (some ⟨w.heap.size, 2, none⟩)) (w' := W) rfl (by go_simp) ?_
          refine ⟨γ, ?_, ?_⟩
          · simp only [Act.put, List.setIfInBounds_toArray, List.set_cons_zero, List.set_cons_succ]; rfl
          · exact hI.other 3 (by decide) (by decide) hl
        case s4 =>
          refine rg_step rfl ?_
          rintro l a W ⟨γ, rfl, hI⟩ hl hd
          have d3 := hd 3 (by decide)
          clear hd
          have y2 := blk_cell hI.h0 2
          simp at y2
          refine rg_val (v := .string t) (w' := W) rfl (by go_simp) ?_
          refine ⟨γ, ?_, ?_⟩
          · simp only [Act.put, List.setIfInBounds_toArray, List.set_cons_zero, List.set_cons_succ]; rfl
          · exact hI.other 4 (by decide) (by decide) hl
        case s5 =>
          refine rg_step rfl ?_
          rintro l a W ⟨γ, rfl, hI⟩ hl hd
          have d4 := hd 4 (by decide)
          clear hd
          refine rg_val (v := .string tr) (w' := W) rfl (by go_simp) ?_
          refine ⟨γ, ?_, ?_⟩
          · simp only [Act.put, List.setIfInBounds_toArray, List.set_cons_zero, List.set_cons_succ]; rfl
          · exact hI.other 5 (by decide) (by decide) hl
        case s6 =>
          refine rg_step rfl ?_
          rintro l a W ⟨γ, rfl, hI⟩ hl hd
          have d2 := hd 2 (by decide)
          have d5 := hd 5 (by decide)
          clear hd
          refine rg_val (v := .string (cb ++ tr)) (w' := W) rfl (by go_simp) ?_
          refine ⟨γ, ?_, ?_⟩
          · simp only [Act.put, List.setIfInBounds_toArray, List.set_cons_zero, List.set_cons_succ]; rfl
          · exact hI.other 6 (by decide) (by decide) hl
        case s7 =>
          refine rg_step rfl ?_
          rintro l a W ⟨γ, rfl, hI⟩ hl hd
          clear hd
          refine rg_val (v := .pointer (some ⟨γ9, 2, none⟩)) (w' := W) rfl (by go_simp) ?_
          refine ⟨γ, ?_, ?_⟩
          · simp only [Act.put, List.setIfInBounds_toArray, List.set_cons_zero, List.set_cons_succ]; rfl
          · exact hI.other 7 (by decide) (by decide) hl
        case s8 =>
          refine rg_step rfl ?_
          rintro l a W ⟨γ, rfl, hI⟩ hl hd
          have d0 := hd 0 (by decide)
          have d1 := hd 1 (by decide)
          have d2 := hd 2 (by decide)
          have d3 := hd 3 (by decide)
          have d4 := hd 4 (by decide)
          have d5 := hd 5 (by decide)
          have d6 := hd 6 (by decide)
          have d7 := hd 7 (by decide)
          clear hd
          have hg := hI.h9
          rw [show l 8 = false from hl, if_neg (by decide)] at hg
          have z2 := blk_cell hg 2
          have zf := fun i => blk_frozen hg i
          simp at z2
          refine rg_skip rfl (by go_simp; rfl) ?_
          refine ⟨γ, ?_, ?_⟩
          · simp only [Act.put, List.setIfInBounds_toArray, List.set_cons_zero, List.set_cons_succ]; rfl
          · exact hI.store hl (fun i hi => by match i, hi with | 0, _ => exact d0 | 1, _ => exact d1 | 2, _ => exact d2 | 3, _ => exact d3 | 4, _ => exact d4 | 5, _ => exact d5 | 6, _ => exact d6 | 7, _ => exact d7)
      case hend =>
        rintro l a W ⟨γ, rfl, hI⟩ hall
        have e0 := hall 0 (by decide)
        have e1 := hall 1 (by decide)
        have e2 := hall 2 (by decide)
        have e3 := hall 3 (by decide)
        have e4 := hall 4 (by decide)
        have e5 := hall 5 (by decide)
        have e6 := hall 6 (by decide)
        have e7 := hall 7 (by decide)
        have e8 := hall 8 (by decide)
        clear hall
        have hx8 := e8
        simp only [e0, e1, e2, e3, e4, e5, e6, e7, e8, sel_true]
        clear e0 e1 e2 e3 e4 e5 e6 e7 e8
        have hB := hI.hB
        have h9 := hI.h9
        rw [if_pos hx8] at h9
        have h7 := (hI.hk γ7 (blk_lt Q7.out) n79).trans Q7.out
        have h8 := (hI.hk γ8 (blk_lt Q8.out) n89).trans Q8.out
        have HB := Aside0.mk hB
        have H9 := Aside0.mk h9
        have H7 := Aside0.mk h7
        have H8 := Aside0.mk h8
        clear hI hx8 hB h9 h7 h8 s1 b6 n07 n08 n09 n70 n80 n90
        have u0 := blk_cell H7.out 0
        have u1 := blk_cell H7.out 1
        have u2 := blk_cell H7.out 2
        simp at u0 u1 u2
        go_wp2_with fail
        refine (lawTN.calls wd lv pl tl W (HK.out.below HB.out)).mono ?_
        rintro e W2 ⟨rfl, hb⟩
        have H8' := Aside0.mk (blk_below H8.out hb)
        have H9' := Aside0.mk (blk_below H9.out hb)
        have HB2 := Aside0.mk (HB.out.trans (hb.mono HB.out.size))
        clear u0 u1 u2 hb
        have u0 := blk_cell H8'.out 0
        have u1 := blk_cell H8'.out 1
        have u2 := blk_cell H8'.out 2
        simp at u0 u1 u2
        go_wp2_with fail
        refine (lawTN.calls wd lv pl (t ++ cb) W2 (HK.out.below HB2.out)).mono ?_
        rintro e W3 ⟨rfl, hb⟩
        have H9'' := Aside0.mk (blk_below H9'.out hb)
        have HB3 := Aside0.mk (HB2.out.trans (hb.mono HB2.out.size))
        clear u0 u1 u2 hb
        have u0 := blk_cell H9''.out 0
        have u1 := blk_cell H9''.out 1
        have u2 := blk_cell H9''.out 2
        simp at u0 u1 u2
        go_wp2_with fail
        refine (lawTN.calls wd lv pl (cb ++ tr) W3 (HK.out.below HB3.out)).mono ?_
        rintro e W4 ⟨rfl, hb⟩
        have HB4 := Aside0.mk (HB3.out.trans (hb.mono HB3.out.size))
        clear u0 u1 u2 hb
        go_wp2
        go_ret
        exact ⟨rfl, HB4.out⟩
  · by_cases h4 : t.size ≤ 400
    · have b0 : decide ((400 : Int) < (t.size : Int)) = false := decide_eq_false (by omega)
      have b1 : decide (400 < t.size) = false := decide_eq_false (by omega)
      have b3 : t.size = 0 := by omega
      have b2 : ((t.size : Int) == 0) = true := by rw [b3]; rfl
      clear h h4
      go_enter Tryd.func8, Tryd.ntmps8
      go_wp2
      go_ret
      exact ⟨rfl, below_alloc (Below.refl _ _) _⟩
    · have b0 : decide ((400 : Int) < (t.size : Int)) = true := decide_eq_true (by omega)
      have b1 : decide (400 < t.size) = true := decide_eq_true (by omega)
      clear h h4
      go_enter Tryd.func8, Tryd.ntmps8
      go_wp2
      go_ret
      exact ⟨rfl, below_alloc (Below.refl _ _) _⟩
def law18_TraceCuts.f (a0 a1_0 a1_1 : Int) (a1_2 : ByteArray) (a2 : Int) : Option Bool := if 0 ≤ a2 ∧ a2 < 256 then some true else none
theorem law18_TraceCuts.calls (a0 a1_0 a1_1 : Int) (a1_2 : ByteArray) (a2 : Int) (r : Bool) (w : World) (hK : LaidT w) (h : law18_TraceCuts.f a0 a1_0 a1_1 a1_2 a2 = some r) :
    Calls Tryd.prog 8 #[.int .i64 a0, .agg #[.int .i64 a1_0, .int .u64 a1_1, .string a1_2], .int .u8 a2] w fun e w' => e = .returned (.bool r) ∧ Below w.heap.size w w' := by
  unfold law18_TraceCuts.f at h
  split at h
  · cases h
    exact lawTC.calls a0 a1_0 a1_1 a1_2 a2 w hK (by assumption)
  · cases h
end Go.Proofs.YtijfifphcchbbaaDoor.P
namespace Go.Proofs.YtijfifphcchbbaaDoor.P
open Go.RowKit Go.Proofs.YtijfifphcchbbaaDoorW.PrintWords Go.Proofs.YtijfifphcchbbaaDoorW.PrintLast Go.Proofs.YtijfifphcchbbaaDoorW.PrintMore
set_option linter.unusedVariables false
set_option linter.unusedSimpArgs false
set_option linter.unnecessarySimpa false
theorem pure_TraceCuts : ∀ (y0 : Int) (y1 : STraceStep) (y2 : Int), (Lit.int .i64 y0).wf = true → wfTraceStep y1 → (Lit.int .u8 y2).wf = true → law18_TraceCuts.f y0 y1.f0 y1.f1 y1.f2 y2 = some true := fun _ _ _ _ _ h => by
 unfold law18_TraceCuts.f
 rw [if_pos (wf_u8 h)]
end Go.Proofs.YtijfifphcchbbaaDoor.P
namespace Go.Proofs.YtijfifphcchbbaaDoor.traceCuts
open Go.Proofs.YtijfifphcchbbaaDoor.P Go.ChangeShapes Go.WideShapes Go.ChangeAt Go.RowKit
open Go.ChangeMaps (open_string shut_string)
open Go.Proofs.YtijfifphcchbbaaDoorW.PrintWords Go.Proofs.YtijfifphcchbbaaDoorW.PrintLast Go.Proofs.YtijfifphcchbbaaDoorW.PrintMore
set_option linter.unusedVariables false
set_option linter.unusedSimpArgs false
theorem own : ownKnob Tryd.prog.godebug = none := by kernel_rfl
theorem laidOut : laidOutB Tryd.prog = true := by kernel_rfl
set_option maxRecDepth 100000 in
theorem lifted (os : Os) (started : os.Started) (H : Type) (enc : TypeId × Value → H) :
    ReturnsInHanded {} Tryd.checked os 8 .any (fun w args => (Rows.traceCutsSpec.pre enc Tryd.prog Tryd.f8 [] false w args ∧ laidMetH Tryd.prog Rows.traceCutsRow.laid w) ∧ sizedMet enc Tryd.prog Tryd.f8 (OpenSpec.ofChange Rows.traceCutsSpec) false w args)
      (Rows.traceCutsSpec.post enc Tryd.prog Tryd.f8 false true false false) := by
  refine returnsInHanded_of_change_and (C := Tryd.checked) (X := fun w _ => laidMetH Tryd.prog Rows.traceCutsRow.laid w) (fun _ _ _ hh h => h.of_heap hh) own started (by kernel_rfl) Tryd.func8
    (ChangeSpec.witness_at (enc := enc) (C := Tryd.checked) (os := os) (X := fun w _ => laidMetH Tryd.prog Rows.traceCutsRow.laid w) false (P.laidWorldT os) #[.int .i64 0, .agg #[.int .i64 0, .int .u64 0, .string ByteArray.empty], .int .u8 0] 8 rfl (by kernel_rfl) (by kernel_rfl) (by kernel_rfl) (by kernel_rfl) (by kernel_rfl) (P.laidWorldT_met os _)) ?_
  intro W base args ds gs before hval0 hW _ hsz0 hL _
  have hval : ∀ (j : Nat) t v, Tryd.f8.params[j]? = some t → args[j]? = some v → Value.okWide Tryd.prog W .any base t v := hval0
  have hW' := hW
  obtain ⟨p, q, hA0, hV, rfl, hfz, hnd⟩ := hW
  have hA : DataW.TrodAll enc Tryd.prog W 0 (fun _ => true) true Tryd.f8.params.toList args.toList ds p := hA0
  rw [Tryd.params8] at hA hval
  obtain ⟨v0, vs0, d0, ds0, p0, q0, hargs, rfl, rfl, h0, r0⟩ := trodAll_cons hA
  obtain ⟨v1, vs1, d1, ds1, p1, q1, rfl, rfl, rfl, h1, r1⟩ := trodAll_cons r0
  obtain ⟨v2, vs2, d2, ds2, p2, q2, rfl, rfl, rfl, h2, r2⟩ := trodAll_cons r1
  obtain ⟨rfl, rfl, rfl⟩ := trodAll_nil r2
  obtain rfl : args = #[v0, v1, v2] := by cases args; simp_all
  obtain ⟨rfl, rfl⟩ := trodVars_none hV
  have hz0 : Sized Tryd.prog 3 d0 := Sized.each hsz0 (j := 0) rfl rfl
  have hz1 : Sized Tryd.prog 48 d1 := Sized.each hsz0 (j := 1) rfl rfl
  have hz2 : Sized Tryd.prog 5 d2 := Sized.each hsz0 (j := 2) rfl rfl
  have k0 := h0
  have lt0 : ∀ x ∈ p0, x.block < W.heap.size := by obtain ⟨m, hm⟩ := k0; exact DataW.trod_lt m _ _ _ hm
  obtain ⟨y0, rfl, rfl, rfl, w0⟩ := open_int Tryd.underlying3 (hval 0 3 v0 rfl rfl) h0
  have k1 := h1
  have lt1 : ∀ x ∈ p1, x.block < W.heap.size := by obtain ⟨m, hm⟩ := k1; exact DataW.trod_lt m _ _ _ hm
  obtain ⟨y1, cs1, rfl, hk1, w1⟩ := rdTraceStep.agg Tryd.underlying48 (hval 1 48 v1 rfl rfl) h1 hz1
  obtain ⟨cl1, rfl⟩ : ∃ l : List Value, cs1 = l.toArray := ⟨cs1.toList, by simp⟩
  simp only [List.toList_toArray] at hk1
  obtain rfl := kTraceStep_open hk1
  have k2 := h2
  have lt2 : ∀ x ∈ p2, x.block < W.heap.size := by obtain ⟨m, hm⟩ := k2; exact DataW.trod_lt m _ _ _ hm
  obtain ⟨y2, rfl, rfl, rfl, w2⟩ := open_int Tryd.underlying5 (hval 2 5 v2 rfl rfl) h2
  clear hA0 hval0 hsz0
  have h := pure_TraceCuts y0 y1 y2 w0 w1 w2
  refine (law18_TraceCuts.calls y0 y1.f0 y1.f1 y1.f2 y2 true W (P.laidT_of_met hL)  h).mono fun e W' ⟨he, bel0⟩ => ?_
  have bel := bel0
  subst he
  exact ⟨_, rfl, _, _, _, [], _, [], hW', trodAll_mk1 (shut_bool Tryd.underlying4 _), (trodAll_cons_mk (Below.trod laidOut (by kernel_rfl) (of_decide_eq_true (by kernel_rfl)) k0 bel lt0) (trodAll_cons_mk (Below.trod laidOut (by kernel_rfl) (of_decide_eq_true (by kernel_rfl)) k1 bel lt1) (trodAll_cons_mk (Below.trod laidOut (by kernel_rfl) (of_decide_eq_true (by kernel_rfl)) k2 bel lt2) trodAll_mk0))), rfl, bel.frame _, fun h => by cases h⟩
theorem over : Rows.traceCutsRow.holds Tryd.pinned (OpenSpec.ofChange Rows.traceCutsSpec) :=
  OpenClaim.holds_of_wide 8 Tryd.f8 rfl rfl rfl rfl rfl rfl rfl ⟨rfl, rfl, rfl, rfl, rfl⟩ rfl rfl rfl rfl rfl (by kernel_rfl) Tryd.func8 (by kernel_rfl)
    (of_decide_eq_true (by kernel_rfl)) (by unfold Func.isWrapper; first | (rw [if_pos (by decide +kernel)]; kernel_rfl) | (rw [if_neg (by decide +kernel)]; exact ⟨rfl, rfl⟩))
    (fun os started H enc _ => lifted os started H enc)
set_option maxRecDepth 100000 in
theorem proved : Rows.TraceCutsCardSaid :=
  Claim7.holds_tied_plain_at .later [] [.data, .data, .pinned] true (true, "165769d79d58bfc62aef2440c3d64497f5a859f08bfc759ed4b0f4abe4cad1c8") true
    over (fun _ h => by cases h) (by kernel_rfl) (fun _ h => by cases h) traceCuts_row_tie rfl ⟨rfl, rfl⟩ (by kernel_rfl) rfl
    (fun f fn hf hfn => by
      obtain rfl : f = 8 := Option.some.inj ((show Tryd.prog.funcNamed "paymaster/paymasterlaw18.TraceCuts" = some 8 by kernel_rfl).symm.trans hf) |>.symm
      obtain rfl : fn = Tryd.f8 := (Option.some.inj (Tryd.func8.symm.trans hfn)).symm
      exact ⟨by kernel_rfl, fun j t ht => by
        rw [Tryd.params8] at ht
        have h3 : t ∈ [3, 48, 5] := by
          have := List.mem_of_getElem? (l := [3, 48, 5]) (i := j) (a := t) (by simpa using ht)
          exact this
        simp only [List.mem_cons, List.not_mem_nil, or_false] at h3
        rcases h3 with rfl | rfl | rfl
        · exact (show Tryd.prog.wantsStandIn 3 = false by kernel_rfl)
        · exact (show Tryd.prog.wantsStandIn 48 = false by kernel_rfl)
        · exact (show Tryd.prog.wantsStandIn 5 = false by kernel_rfl)
      ⟩)
    (by kernel_rfl)
#print axioms proved
end Go.Proofs.YtijfifphcchbbaaDoor.traceCuts
namespace Go.Proofs.YtijfifphcchbbaaDoor
/-- The row, under a short name, for the claim. -/
theorem traceCuts_holds : Rows.TraceCutsCardSaid := traceCuts.proved
end Go.Proofs.YtijfifphcchbbaaDoor
