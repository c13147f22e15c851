-- Several texts of this workplace as one.
import Derived.Test.YtfcodmdckcihmaaDoorZVerifySpoilt2
import Derived.Test.YtfcodmdckcihmaaDoorProg
import Derived.Deep.OwnRows
import Derived.Laws.Rows
import Derived.Test.YtfcodmdckcihmaaDoorRows
import Derived.Test.YtfcodmdckcihmaaDoorCards
import Derived.Test.YtfcodmdckcihmaaDoorTie
namespace Go.Proofs.YtfcodmdckcihmaaDoor.P
open Go.RowKit Go.Proofs.YtfcodmdckcihmaaDoorW.PrintWords Go.Proofs.YtfcodmdckcihmaaDoorW.PrintLast Go.Proofs.YtfcodmdckcihmaaDoorW.PrintMore
set_option linter.unusedVariables false
set_option linter.unusedSimpArgs false
set_option linter.unnecessarySimpa false
attribute [local go_sem] Oper.semAt_some sel_true
set_option maxRecDepth 100000 in
set_option maxHeartbeats 4000000 in
theorem treeNew.calls (wd : Int) (A : Option Addr) (c : Nat) (ls : List SLeaf) (w : World) (hK : LaidT w) (hr : Kd.C kLeaf w A ls.length ls) (hc : ls.length ≤ c) (hn : ls.length ≤ 1024) (hl : ∀ x ∈ ls, OkL x) :
  Calls Tryd.prog 14 #[.int .i64 wd, .slice A ls.length c] w (NewPost w wd ls) := by
 have HK := aM' hK
 have HR := aM' hr
 have HC := aM' hc
 have HN := aM' hn
 have HL := aM' hl
 clear hK hr hc hl hn
 obtain ⟨i0, hi, hz0, hz1, hz2⟩ := info_parts nodeInfo
 have hS0 := NwB.start w wd
 have HS0 := aM' hS0
 clear hS0
 refine (callsIn_wide (n := 3)).1 ?_
 refine callsIn_of_wp_marks Tryd.func14 rfl trivial ?_ rfl
 simp only [Tryd.ntmps14, List.size_toArray, List.length_cons, List.length_nil, Nat.reduceAdd, Nat.reduceSub, Array.replicate_succ, Array.replicate_zero, List.push_toArray, List.append_toArray, List.nil_append, List.cons_append]
 refine wpIn_wide.2 ?_
 go_wp2_with fail
 go_step3
 go_wp2_with fail
 obtain ⟨W0, hW0⟩ : ∃ V, V = ((w.alloc (.cells #[.int .i64 wd] 3)).alloc (.cells #[.pointer none] 25)).alloc (.cells #[.int .i64 0] 26) := ⟨_, rfl⟩
 rw [← hW0] at HS0 ⊢
 clear hW0
 have hsz0 := HS0.out.lt
 refine (height.calls ls.length _ HN.out).mono ?_
 rintro e w1 ⟨⟨h, rfl⟩, rfl⟩
 have x2 : W0.cell? ⟨w.heap.size, 0, none⟩ = some (.int .i64 wd) := blk_cell HS0.out.h2 0
 have x4 : W0.cell? ⟨w.heap.size + 1, 0, none⟩ = some (.pointer none) := blk_cell HS0.out.h4 0
 have x5 : W0.cell? ⟨w.heap.size + 1 + 1, 0, none⟩ = some (.int .i64 0) := blk_cell HS0.out.h5 0
 have f4 : ∀ i, W0.frozen? ⟨w.heap.size + 1, i, none⟩ = false := fun i => blk_frozen HS0.out.h4 i
 have f5 : ∀ i, W0.frozen? ⟨w.heap.size + 1 + 1, i, none⟩ = false := fun i => blk_frozen HS0.out.h5 i
 by_cases hw : wd < 1 ∨ 32 < wd
 ·
  have HI := aM' (show newI wd ls = 70 by unfold newI; rw [if_pos hw])
  by_cases h1 : wd < 1
  ·
   have b1 : decide (wd < 1) = true := decide_eq_true h1
   clear hw
   go_wp2
   exact newErr HS0.out rfl rfl HI.out (by decide)
  ·
   have b1 : decide (wd < 1) = false := decide_eq_false h1
   have b2 : decide (32 < wd) = true := decide_eq_true (by omega)
   clear hw
   go_wp2
   exact newErr HS0.out rfl rfl HI.out (by decide)
 ·
  have b1 : decide (wd < 1) = false := decide_eq_false (by omega)
  have b2 : decide (32 < wd) = false := decide_eq_false (by omega)
  have HW := aM' hw
  clear hw
  cases hp : isPow ls.length with
  | false =>
   have HI := aM' (show newI wd ls = 120 by unfold newI; rw [if_neg HW.out, if_pos hp])
   clear hp
   go_wp2
   exact newErr HS0.out rfl rfl HI.out (by decide)
  | true =>
   have HP := aM' hp
   clear hp
   have HSz := aM' hsz0
   clear hsz0
   go_wp2
   go_step3
   go_wp2
   clear x2 x4 x5 f4 f5 b1 b2
   go_loopw [8, 34] (fun v8 v34 wr => ∃ i : Nat, v34 = .int .i64 (i : Int) ∧ Aside0 (i ≤ ls.length ∧ (∀ x ∈ ls.take i, mayLeafI x = true)) ∧ Aside0 (NwB w wd wr) ∧ Aside0 (wr.ownsRow (w.heap.size + 3) 46 3 v8 i (cellsN ((ls.take i).map (leafNodeI wd))))) (fun _ v34 _ => ls.length - (intOf v34).toNat)
   case atStart => exact ⟨0, rfl, ⟨Nat.zero_le _, by simp⟩, HS0, ⟨World.ownsRow_nil _ _ _ _⟩⟩
   case round =>
    obtain ⟨i, rfl, HI, HS, HO⟩ := hrel
    obtain ⟨A8, c8, rfl⟩ : ∃ A8 c8, u8 = .slice A8 i c8 := by
     rcases HO.out.2 with ⟨h, h0⟩ | ⟨g, cap, cur, h, _⟩
     ·
      exact ⟨none, 0, by rw [h, h0]⟩
     ·
      exact ⟨_, _, h⟩
    by_cases hlt : i < ls.length
    ·
     have b1 : decide ((i : Int) < (ls.length : Int)) = true := decide_eq_true (by omega)
     have b2 : decide (i < ls.length) = true := decide_eq_true hlt
     obtain ⟨ad, e1, p0, p1, p2, p3, p4⟩ := at_TLeaf (Kd.C_below HR.out HS.out.hB) (i : Int) (by omega) (by omega)
     subst e1
     have e3 : rd_TLeaf ls (i : Int) = ls[i] := by rw [rd_TLeaf, Int.toNat_natCast]; simp [List.getD_eq_getElem?_getD, hlt]
     rw [e3, Int.toNat_natCast] at p0 p1 p2 p3 p4
     have htk : ls.take (i + 1) = ls.take i ++ [ls[i]] := by rw [List.take_succ_eq_append_getElem hlt]
     have hok := HL.out ls[i] (List.getElem_mem hlt)
     have hmem : ls[i] ∈ ls := List.getElem_mem hlt
     generalize ls[i] = x at p0 p1 p2 p3 p4 htk hok hmem
     have HMEM := aM' hmem
     have HM := aM' (tagMayLeaf_eq x hok.id)
     obtain ⟨kl, hkl⟩ := (tagLeafNode_ev wd x hok.id hok.sa).rounds
     have HLN := aM' hkl
     have HTK := aM' htk
     have HLT := aM' hlt
     clear hkl htk hok e3 hmem
     have hx2 := blk_cell (blk_alloc HS.out.h2 (.cells (acL x) 36)) 0
     go_wp2_with fail
     have HS1 := aM' (HS.out.below (below_alloc (Below.refl _ _) (.cells (acL x) 36)))
     have HX := aM' (blk_new wr (.cells (acL x) 36))
     have HO1 := aM' (ownB HO.out (below_alloc (Below.refl _ _) (.cells (acL x) 36)))
     clear p0 p1 p2 p3 p4 hx2
     refine (tag_MayLeaf.calls x.f0 x.f1 x.f2 x.f3.f0 x.f3.f1 (mayLeafI x) _ (HK.out.below HS1.out.hB) HM.out).mono ?_
     rintro e w2 ⟨rfl, hb⟩
     have HS2 := aM' (HS1.out.below hb)
     have HX2 := aM' (blk_below HX.out hb)
     have HO2 := aM' (ownB HO1.out hb)
     clear hb
     cases hml : mayLeafI x with
     | true =>
      have HML := aM' hml
      clear hml
      have q0 := blk_cell HX2.out 0
      have q1 := blk_cell HX2.out 1
      have q2 := blk_cell HX2.out 2
      have q3 := blk_cell HX2.out 3
      have q4 := blk_cell HX2.out 4
      have x2 := blk_cell HS2.out.h2 0
      simp at q0 q1 q2 q3 q4 x2
      go_wp2_with fail
      refine (tag_LeafNode.calls kl wd x.f0 x.f1 x.f2 x.f3.f0 x.f3.f1 _ _ _ _ (HK.out.below HS2.out.hB) HLN.out).mono ?_
      rintro e w3 ⟨rfl, hb⟩
      have HS3 := aM' (HS2.out.below hb)
      have HO3 := aM' (ownB HO2.out hb)
      clear hb q0 q1 q2 q3 q4 x2
      generalize hnx : leafNodeI wd x = nx
      go_wp2_with (at_builtin; refine wpList_append_own _ rfl _ _ 43 rfl (w.heap.size + 3) 46 i0 (.agg #[(.string ⟨#[]⟩), (.int .u64 0), (.int .u64 0)]) 3 32 Tryd.underlying43 hi hz0 hz1 hz2 rfl (by decide) (.slice A8 i c8) i _ rfl (ownB HO3.out (below_alloc (Below.refl _ _) (.cells (nodeA nx) 46))) ⟨w3.heap.size, 0, none⟩ 1 1 [.string nx.f0, .int .u64 nx.f1.f0, .int .u64 nx.f1.f1] rfl rfl ?c2 ?c3 ?c4 ?c5 ?c6 ?_)
      case c2 => exact World.news_of_block (blk_new w3 (.cells (nodeA nx) 46))
      case c3 =>
       intro u hu
       simp only [List.mem_cons, List.not_mem_nil, or_false] at hu
       rcases hu with rfl | rfl | rfl <;> rfl
      case c4 => have := HN.out; unfold maxLen; omega
      case c5 => have := HN.out; omega
      case c6 => rw [World.size_alloc]; have := HS3.out.lt; omega
      intro v' w' hown hgr hnil
      have hS4 := (HS3.out.below (below_alloc (Below.refl _ _) (.cells (nodeA nx) 46))).grown hgr (fun r hr => (HO3.out.lt r hr).1)
      have HS4 := aM' hS4
      have hown2 : w'.ownsRow (w.heap.size + 3) 46 3 v' (i + 1) (cellsN ((ls.take (i + 1)).map (leafNodeI wd))) := by
       rw [HTK.out, List.map_append, cellsN_append]
       rw [List.map_cons, List.map_nil, hnx]
       rw [← List.map_take] at hown
       exact hown
      have HO4 := aM' hown2
      clear hown hgr hnil hS4 hown2 hnx
      have hi1 : i ≤ 1024 := by have := HN.out; omega
      go_wp2
      go_roundw
      case rel => exact ⟨i + 1, by go_num, ⟨by omega, fun y hy => by
       rw [HTK.out] at hy
       rcases List.mem_append.1 hy with hy | hy
       ·
        exact HI.out.2 y hy
       ·
        rw [List.mem_singleton.1 hy]; exact HML.out⟩, HS4, HO4⟩
      case measure => simp [intOf]; omega
     | false =>
      have HML := aM' hml
      clear hml
      have x4 : w2.cell? ⟨w.heap.size + 1, 0, none⟩ = some (.pointer none) := blk_cell HS2.out.h4 0
      have x5 : w2.cell? ⟨w.heap.size + 1 + 1, 0, none⟩ = some (.int .i64 0) := blk_cell HS2.out.h5 0
      have f4 : ∀ i, w2.frozen? ⟨w.heap.size + 1, i, none⟩ = false := fun i => blk_frozen HS2.out.h4 i
      have f5 : ∀ i, w2.frozen? ⟨w.heap.size + 1 + 1, i, none⟩ = false := fun i => blk_frozen HS2.out.h5 i
      go_wp2
      exact newErr HS2.out rfl rfl (by
       unfold newI
       rw [if_neg HW.out, if_neg (by rw [HP.out]; decide), if_pos]
       exact List.all_eq_false.2 ⟨x, HMEM.out, by rw [HML.out]; decide⟩) (by decide)
    ·
     obtain rfl : i = ls.length := by have := HI.out.1; omega
     have hpos : 0 < ls.length := by
      rcases Nat.eq_zero_or_pos ls.length with h0 | h0
      ·
       have := HP.out; rw [h0] at this; exact absurd this (by decide)
      ·
       exact h0
     have b1 : decide ((ls.length : Int) < (ls.length : Int)) = false := decide_eq_false (by omega)
     have b2 : decide (ls.length < ls.length) = false := decide_eq_false hlt
     have hall : ls.all mayLeafI = true := List.all_eq_true.2 (fun x hx => HI.out.2 x (by rw [List.take_length]; exact hx))
     have ho := HO.out
     rw [List.take_length] at ho
     obtain ⟨gc, cc, hv, -, hgc⟩ := ho.form hpos
     cases hv
     have hnl : (ls.map (leafNodeI wd)).length = ls.length := List.length_map ..
     have HALL := aM' hall
     have HO := aM' ho
     have HPOS := aM' hpos
     have HNL := aM' hnl
     clear hall ho hpos hnl hgc
     obtain ⟨ad, rfl⟩ : ∃ ad, A = some ad := by
      obtain ⟨_, _, h3⟩ := HR.out
      obtain ⟨a, ha, _⟩ := h3 HPOS.out
      exact ⟨a, ha⟩
     go_upto_region 15 with (fail)
     refine wp_forget (fun x => ({ tmps := #[.int .i64 wd, .slice (some ad) ls.length c, .pointer (some ⟨w.heap.size, 0, none⟩), x 3, .pointer (some ⟨w.heap.size + 1, 0, none⟩), .pointer (some ⟨w.heap.size + 1 + 1, 0, none⟩), x 6, x 7, .slice (some ⟨gc, 0, none⟩) ls.length c8, x 9, x 10, x 11, x 12, x 13, x 14, x 15, x 16, x 17, x 18, x 19, x 20, x 21, x 22, x 23, x 24, x 25, x 26, x 27, x 28, x 29, x 30, x 31, x 32, x 33, x 34, x 35, x 36, x 37, x 38, x 39, x 40, x 41, x 42, x 43, x 44, x 45, x 46, x 47, x 48, x 49, x 50, x 51, x 52, x 53, x 54, x 55, x 56, x 57, x 58, x 59, x 60, x 61, x 62, x 63, x 64, x 65, x 66, x 67, x 68, x 69, x 70, x 71, x 72, x 73, x 74, x 75, x 76, x 77, x 78, x 79, x 80, x 81, x 82, x 83, x 84, x 85, x 86, x 87, x 88, x 89, x 90, x 91, x 92, x 93, x 94, x 95, x 96, x 97, x 98, x 99, x 100], defers := [] } : Act)) rfl ?_
     intro x
     have HCL := aM' (fun (V : World) (hb : Below w.heap.size w V) => cloneL.calls ad c ls V (Kd.C_below HR.out hb) HPOS.out HN.out)
     clear b1 b2
     refine region_inv (fun l a W => ∃ γ : Nat, ∃ κ : Nat, ∃ δ : Nat, a = ({ tmps := #[.int .i64 wd, .slice (some ad) ls.length c, .pointer (some ⟨w.heap.size, 0, none⟩), x 3, .pointer (some ⟨w.heap.size + 1, 0, none⟩), .pointer (some ⟨w.heap.size + 1 + 1, 0, none⟩), x 6, x 7, .slice (some ⟨gc, 0, none⟩) ls.length c8, x 9, x 10, sel (l 5) (.pointer (some ⟨δ, 0, none⟩)) (x 11), x 12, x 13, x 14, x 15, x 16, x 17, x 18, x 19, x 20, x 21, x 22, x 23, x 24, x 25, x 26, x 27, x 28, x 29, x 30, x 31, x 32, x 33, x 34, x 35, x 36, x 37, x 38, x 39, x 40, x 41, x 42, x 43, x 44, x 45, x 46, x 47, x 48, x 49, x 50, x 51, x 52, sel (l 0) (.int .i64 wd) (x 53), sel (l 1) (.slice (some ad) ls.length c) (x 54), sel (l 2) (.slice (some ⟨γ, 0, none⟩) ls.length κ) (x 55), sel (l 3) (.agg #[.int .i64 wd, .slice (some ⟨γ, 0, none⟩) ls.length κ, .slice none 0 0]) (x 56), sel (l 4) (.pointer (some ⟨δ, 0, none⟩)) (x 57), x 58, x 59, x 60, x 61, x 62, x 63, x 64, x 65, x 66, x 67, x 68, x 69, x 70, x 71, x 72, x 73, x 74, x 75, x 76, x 77, x 78, x 79, x 80, x 81, x 82, x 83, x 84, x 85, x 86, x 87, x 88, x 89, x 90, x 91, x 92, x 93, x 94, x 95, x 96, x 97, x 98, x 99, x 100], defers := [] } : Act) ∧ Nw15 wr W wd ls l γ κ δ) 6 rfl rfl (by kernel_rfl) ?h0 ?hend ?hstep
     case h0 => exact ⟨0, 0, 0, rfl, below_drew (Below.refl _ _), (fun h => by cases h), (fun h => by cases h), (fun h => by cases h), (fun h => by cases h), (fun h => by cases h)⟩
     case hstep =>
      refine rg_cons (rg_cons (rg_cons (rg_cons (rg_cons (rg_cons (rg_nil) ?s0) ?s1) ?s2) ?s3) ?s4) ?s5
      case s0 =>
       refine rg_step rfl ?_
       rintro l a W ⟨γ, κ, δ, rfl, hI⟩ hl hd
       clear hd
       have x0 := blk_cell (blk_below HS.out.h2 hI.hB) 0
       simp at x0
       refine rg_val (v := .int .i64 wd) (w' := W) rfl (by go_simp) ?_
       refine ⟨γ, κ, δ, ?_, ?_⟩
       ·
        simp only [Act.put, List.setIfInBounds_toArray, List.set_cons_zero, List.set_cons_succ]; rfl
       ·
        exact hI.same 0 (by decide)
      case s1 =>
       refine rg_step rfl ?_
       rintro l a W ⟨γ, κ, δ, rfl, hI⟩ hl hd
       clear hd
       refine rg_val (v := .slice (some ad) ls.length c) (w' := W) rfl (by go_simp) ?_
       refine ⟨γ, κ, δ, ?_, ?_⟩
       ·
        simp only [Act.put, List.setIfInBounds_toArray, List.set_cons_zero, List.set_cons_succ]; rfl
       ·
        exact hI.same 1 (by decide)
      case s2 =>
       refine rg_step rfl ?_
       rintro l a W ⟨γ, κ, δ, rfl, hI⟩ hl hd
       have d1 := hd 1 (by decide)
       clear hd
       refine rg_call rfl (by go_simp; exact ⟨rfl, rfl⟩) ?_
       refine (HCL.out W (HS.out.hB.trans (hI.hB.mono HS.out.hB.size))).mono ?_
       rintro xx W' ⟨g, cap, rfl, ho, hb, hg⟩
       have h3 := hI.no3 hl
       have h3' : upd l 2 3 = false := h3
       refine ⟨_, rfl, g, cap, δ, ?_, ?_⟩
       ·
        simp only [Act.put, List.setIfInBounds_toArray, List.set_cons_zero, List.set_cons_succ, h3, h3']; rfl
       ·
        exact hI.clone hl hb ho hg HPOS.out
      case s3 =>
       refine rg_step rfl ?_
       rintro l a W ⟨γ, κ, δ, rfl, hI⟩ hl hd
       have d0 := hd 0 (by decide)
       have d2 := hd 2 (by decide)
       clear hd
       refine rg_val (v := .agg #[.int .i64 wd, .slice (some ⟨γ, 0, none⟩) ls.length κ, .slice none 0 0]) (w' := W) rfl (by go_simp) ?_
       refine ⟨γ, κ, δ, ?_, ?_⟩
       ·
        simp only [Act.put, List.setIfInBounds_toArray, List.set_cons_zero, List.set_cons_succ]; rfl
       ·
        exact hI.three d2
      case s4 =>
       refine rg_step rfl ?_
       rintro l a W ⟨γ, κ, δ, rfl, hI⟩ hl hd
       have d3 := hd 3 (by decide)
       clear hd
       refine rg_val (v := .pointer (some ⟨W.heap.size, 0, none⟩)) (w' := W.alloc (.cells #[.int .i64 wd, .slice (some ⟨γ, 0, none⟩) ls.length κ, .slice none 0 0] 105 (0, 0))) rfl (by go_simp) ?_
       have h5 := hI.no5 hl
       have h5' : upd l 4 5 = false := h5
       refine ⟨γ, κ, W.heap.size, ?_, ?_⟩
       ·
        simp only [Act.put, List.setIfInBounds_toArray, List.set_cons_zero, List.set_cons_succ, h5, h5']; rfl
       ·
        exact hI.box d3
      case s5 =>
       refine rg_step rfl ?_
       rintro l a W ⟨γ, κ, δ, rfl, hI⟩ hl hd
       have d4 := hd 4 (by decide)
       clear hd
       refine rg_val (v := .pointer (some ⟨δ, 0, none⟩)) (w' := W) rfl (by go_simp) ?_
       refine ⟨γ, κ, δ, ?_, ?_⟩
       ·
        simp only [Act.put, List.setIfInBounds_toArray, List.set_cons_zero, List.set_cons_succ]; rfl
       ·
        exact hI.five d4
     case hend =>
      rintro l a W ⟨γ, κ, δ, rfl, hI⟩ hall
      have e0 := hall 0 (by decide)
      have e1 := hall 1 (by decide)
      have e2 := hall 2 (by decide)
      have e3 := hall 3 (by decide)
      have e4 := hall 4 (by decide)
      have e5 := hall 5 (by decide)
      clear hall
      have hl := hI.hl e2
      have ht := hI.ht e4
      have hB := hI.hB
      simp only [e0, e1, e2, e3, e4, e5, sel_true]
      clear e0 e1 e2 e3 e4 e5
      clear hI
      obtain ⟨l1, l2, l3⟩ := hl
      obtain ⟨t1, t2, t3⟩ := ht
      have hsz := HS.out.lt
      have hbs := HS.out.below hB
      have hcur := ownB HO.out hB
      have hgcl := (HO.out.lt gc rfl)
      obtain ⟨nodes, hnodes⟩ : ∃ n, n = ls.map (leafNodeI wd) := ⟨_, rfl⟩
      have hnl : nodes.length = ls.length := by rw [hnodes]; exact HNL.out
      rw [← hnodes, ← hnl] at hcur
      obtain ⟨K, hK⟩ := isPow_spec HP.out
      have hK10 : K ≤ 10 := by
       rcases Nat.lt_or_ge 10 K with h | h
       ·
        have := Nat.pow_le_pow_right (n := 2) (by decide) (show 11 ≤ K by omega)
        have := HN.out
        omega
       ·
        exact h
      have hH : NwH w wd ls δ γ κ [] [] [] nodes gc c8 none 0 W := by
       obtain ⟨cs, hcs⟩ := own_cells hcur rfl
       refine ⟨⟨hbs, t3, own_base l3 (by omega), World.ownsRow_nil _ _ _ _, trivial, ?_, (fun k hk => by cases hk), by omega, List.nodup_nil, (fun D hD => by cases hD)⟩, hcur, ⟨hgcl.1, ?_, (fun h => by cases h), cs, _, _, hcs⟩, ⟨K, K, hnl.trans hK, hK, by simp, by rw [hnodes]; rfl⟩, ?_, by rw [hnodes], ⟨Nat.zero_le _, by rw [hnl]; exact HN.out, HN.out⟩, fun D hD => by cases hD⟩
       ·
        simp only [List.map_nil, List.nodup_cons, List.mem_cons, List.not_mem_nil, or_false, not_false_eq_true, List.nodup_nil, and_true]
        exact t2
       ·
        simp only [List.map_nil, List.mem_cons, List.not_mem_nil, or_false]
        omega
       ·
        intro x hx
        rw [hnodes] at hx
        obtain ⟨y, hy, rfl⟩ := List.mem_map.1 hx
        have h1 := List.all_eq_true.1 HALL.out y hy
        have h2 := HW.out
        refine ⟨?_, leafNodeI_ok wd y (HL.out y hy).ub⟩
        unfold leafNodeI
        rw [if_pos ⟨⟨by omega, by omega⟩, h1⟩]
        have e : ((dgI wd (leafTextI y)).size : Int) = wd := by rw [dgI_size _ _ (by omega) (by omega)]; omega
        simp only [nodeOf, e]
        simp
        omega
      have HH := aM' hH
      clear l1 l2 l3 t1 t2 t3 hsz hbs hcur hgcl hH hK hK10 hB
      have HNODES := aM' hnodes
      have HNL2 := aM' hnl
      clear hnl hnodes
      go_wp2_with fail
      refine wp_forget (fun x => ({ tmps := #[.int .i64 wd, .slice (some ad) ls.length c, .pointer (some ⟨w.heap.size, 0, none⟩), x 3, .pointer (some ⟨w.heap.size + 1, 0, none⟩), .pointer (some ⟨w.heap.size + 1 + 1, 0, none⟩), x 6, x 7, .slice (some ⟨gc, 0, none⟩) ls.length c8, x 9, x 10, .pointer (some ⟨δ, 0, none⟩), x 12, x 13, x 14, x 15, x 16, x 17, x 18, x 19, x 20, x 21, x 22, x 23, x 24, x 25, x 26, x 27, x 28, x 29, x 30, x 31, x 32, x 33, x 34, x 35, x 36, x 37, x 38, x 39, x 40, x 41, x 42, x 43, x 44, x 45, x 46, x 47, x 48, x 49, x 50, x 51, x 52, x 53, x 54, x 55, x 56, x 57, x 58, x 59, x 60, x 61, x 62, x 63, x 64, x 65, x 66, x 67, x 68, x 69, x 70, x 71, x 72, x 73, x 74, x 75, x 76, x 77, x 78, x 79, x 80, x 81, x 82, x 83, x 84, x 85, x 86, x 87, x 88, x 89, x 90, x 91, x 92, x 93, x 94, x 95, x 96, x 97, x 98, x 99, x 100], defers := [] } : Act)) rfl ?_
      intro x
      obtain ⟨I, hI⟩ : ∃ I : Act → World → Prop, I = fun a V => ∃ (x : Nat → Value) (gs : List RowG) (done : List (List SNode)) (ds : List Nat) (cur : List SNode) (gc cc : Nat) (A9 : Option Addr) (c9 : Nat), a = ({ tmps := #[.int .i64 wd, .slice (some ad) ls.length c, .pointer (some ⟨w.heap.size, 0, none⟩), x 3, .pointer (some ⟨w.heap.size + 1, 0, none⟩), .pointer (some ⟨w.heap.size + 1 + 1, 0, none⟩), x 6, x 7, .slice (some ⟨gc, 0, none⟩) cur.length cc, x 9, x 10, .pointer (some ⟨δ, 0, none⟩), x 12, x 13, x 14, x 15, x 16, x 17, x 18, x 19, x 20, x 21, x 22, x 23, x 24, x 25, x 26, x 27, x 28, x 29, x 30, x 31, x 32, x 33, x 34, x 35, x 36, x 37, x 38, x 39, x 40, x 41, x 42, x 43, x 44, x 45, x 46, x 47, x 48, x 49, x 50, x 51, x 52, x 53, x 54, x 55, x 56, x 57, x 58, x 59, x 60, x 61, x 62, x 63, x 64, x 65, x 66, x 67, x 68, x 69, x 70, x 71, x 72, x 73, x 74, x 75, x 76, x 77, x 78, x 79, x 80, x 81, x 82, x 83, x 84, x 85, x 86, x 87, x 88, x 89, x 90, x 91, x 92, x 93, x 94, x 95, x 96, x 97, x 98, x 99, x 100], defers := ds.map markD } : Act) ∧ NwH w wd ls δ γ κ gs done ds cur gc cc A9 c9 V := ⟨_, rfl⟩
      refine wp_loop I (fun a _ => lenT a) ?lstart ?lround
      case lstart =>
       rw [hI]
       refine ⟨x, [], [], [], nodes, gc, c8, none, 0, ?_, HH.out⟩
       rw [HNL2.out]
       rfl
      case lround =>
       clear HH HO
       intro a V ha
       rw [hI] at ha
       obtain ⟨x, gs, done, ds, cur, gc, cc, A9, c9, rfl, hH⟩ := ha
       have HI := aM' hI
       have HH := aM' hH
       clear hI hH
       have hT := HH.out.t
       have hO := HH.out.o
       have hm := HH.out.m
       have hlen := hT.hg.len
       obtain ⟨j0, hj, hj0, hj1, hj2⟩ := info_parts levelInfo
       have HTT := aM' hT
       have HOO := aM' hO
       have HMM := aM' hm
       clear hT hO hlen
       go_wp2_with fail
       refine region_inv (fun l a W => ∃ γ1 : Nat, ∃ γ2 : Nat, ∃ κ2 : Nat, a = ({ tmps := #[.int .i64 wd, .slice (some ad) ls.length c, .pointer (some ⟨w.heap.size, 0, none⟩), x 3, .pointer (some ⟨w.heap.size + 1, 0, none⟩), .pointer (some ⟨w.heap.size + 1 + 1, 0, none⟩), x 6, x 7, .slice (some ⟨gc, 0, none⟩) cur.length cc, x 9, x 10, .pointer (some ⟨δ, 0, none⟩), x 12, x 13, x 14, x 15, x 16, x 17, x 18, x 19, x 20, x 21, x 22, x 23, x 24, x 25, x 26, x 27, x 28, x 29, x 30, x 31, x 32, x 33, x 34, x 35, x 36, x 37, x 38, x 39, x 40, x 41, x 42, x 43, x 44, x 45, x 46, x 47, x 48, x 49, x 50, x 51, x 52, x 53, x 54, x 55, x 56, x 57, sel (l 0) (.pointer (some ⟨δ, 0, none⟩)) (x 58), sel (l 1) (.pointer (some ⟨δ, 0, none⟩)) (x 59), sel (l 2) (.pointer (some ⟨δ, 0, none⟩)) (x 60), sel (l 3) (.pointer (some ⟨δ, 2, none⟩)) (x 61), sel (l 4) (.slice A9 done.length c9) (x 62), sel (l 5) (.slice (some ⟨gc, 0, none⟩) cur.length cc) (x 63), sel (l 6) (.agg #[.slice (some ⟨gc, 0, none⟩) cur.length cc]) (x 64), sel (l 7) (.pointer (some ⟨δ, 0, none⟩)) (x 65), sel (l 8) (.pointer (some ⟨δ, 0, none⟩)) (x 66), sel (l 9) (.pointer (some ⟨δ, 2, none⟩)) (x 67), sel (l 10) (.slice A9 done.length c9) (x 68), sel (l 11) (.int .i64 (done.length : Int)) (x 69), sel (l 12) (.agg #[.slice (some ⟨gc, 0, none⟩) cur.length cc, .int .i64 (done.length : Int)]) (x 70), sel (l 13) (.slice (some ⟨γ1, 0, none⟩) 1 1) (x 71), sel (l 14) (.slice (some ⟨γ2, 0, none⟩) (done.length + 1) κ2) (x 72), sel (l 15) (.pointer (some ⟨δ, 0, none⟩)) (x 73), sel (l 16) (.pointer (some ⟨δ, 2, none⟩)) (x 74), x 75, x 76, x 77, x 78, x 79, x 80, x 81, x 82, x 83, x 84, x 85, x 86, x 87, x 88, x 89, x 90, x 91, x 92, x 93, x 94, x 95, x 96, x 97, x 98, x 99, x 100], defers := ds.map markD } : Act) ∧ Nw16 w V W wd ls δ γ κ (.slice A9 done.length c9) gs done ds (gc, cc) cur l γ1 γ2 κ2) 18 rfl rfl (by kernel_rfl) ?h0 ?hend ?hstep
       case h0 => exact ⟨0, 0, 0, rfl, ⟨fun _ => below_drew (Below.refl _ _), (fun h => by cases h), (fun h => by cases h), (fun h => by cases h), (fun h => by cases h), (fun h => by cases h), (fun h => by cases h), (fun h => by cases h), (fun h => by cases h)⟩⟩
       case hstep =>
        refine rg_cons (rg_cons (rg_cons (rg_cons (rg_cons (rg_cons (rg_cons (rg_cons (rg_cons (rg_cons (rg_cons (rg_cons (rg_cons (rg_cons (rg_cons (rg_cons (rg_cons (rg_cons (rg_nil) ?s0) ?s1) ?s2) ?s3) ?s4) ?s5) ?s6) ?s7) ?s8) ?s9) ?s10) ?s11) ?s12) ?s13) ?s14) ?s15) ?s16) ?s17
        case s0 =>
         refine rg_step rfl ?_
         rintro l a W ⟨γ1, γ2, κ2, rfl, hI⟩ hl hd
         clear hd
         refine rg_val (v := .pointer (some ⟨δ, 0, none⟩)) (w' := W) rfl (by go_simp) ?_
         refine ⟨γ1, γ2, κ2, ?_, ?_⟩
         ·
          simp only [Act.put, List.setIfInBounds_toArray, List.set_cons_zero, List.set_cons_succ]; rfl
         ·
          exact hI.pure 0 (by decide) (fun h => absurd h (by decide)) (fun h => absurd h (by decide))
        case s1 =>
         refine rg_step rfl ?_
         rintro l a W ⟨γ1, γ2, κ2, rfl, hI⟩ hl hd
         clear hd
         refine rg_val (v := .pointer (some ⟨δ, 0, none⟩)) (w' := W) rfl (by go_simp) ?_
         refine ⟨γ1, γ2, κ2, ?_, ?_⟩
         ·
          simp only [Act.put, List.setIfInBounds_toArray, List.set_cons_zero, List.set_cons_succ]; rfl
         ·
          exact hI.pure 1 (by decide) (fun h => absurd h (by decide)) (fun h => absurd h (by decide))
        case s2 =>
         refine rg_step rfl ?_
         rintro l a W ⟨γ1, γ2, κ2, rfl, hI⟩ hl hd
         have d1 := hd 1 (by decide)
         clear hd
         refine rg_val (v := .pointer (some ⟨δ, 0, none⟩)) (w' := W) rfl (by go_simp) ?_
         refine ⟨γ1, γ2, κ2, ?_, ?_⟩
         ·
          simp only [Act.put, List.setIfInBounds_toArray, List.set_cons_zero, List.set_cons_succ]; rfl
         ·
          exact hI.pure 2 (by decide) (fun h => absurd h (by decide)) (fun h => absurd h (by decide))
        case s3 =>
         refine rg_step rfl ?_
         rintro l a W ⟨γ1, γ2, κ2, rfl, hI⟩ hl hd
         have d2 := hd 2 (by decide)
         clear hd
         refine rg_val (v := .pointer (some ⟨δ, 2, none⟩)) (w' := W) rfl (by go_simp) ?_
         refine ⟨γ1, γ2, κ2, ?_, ?_⟩
         ·
          simp only [Act.put, List.setIfInBounds_toArray, List.set_cons_zero, List.set_cons_succ]; rfl
         ·
          exact hI.pure 3 (by decide) (fun h => absurd h (by decide)) (fun h => absurd h (by decide))
        case s4 =>
         refine rg_step rfl ?_
         rintro l a W ⟨γ1, γ2, κ2, rfl, hI⟩ hl hd
         have d3 := hd 3 (by decide)
         clear hd
         have hb := hI.hA (hI.no4 hl)
         have x0 := blk_cell (blk_below HTT.out.ht hb) 2
         simp at x0
         refine rg_val (v := .slice A9 done.length c9) (w' := W) rfl (by go_simp) ?_
         refine ⟨γ1, γ2, κ2, ?_, ?_⟩
         ·
          simp only [Act.put, List.setIfInBounds_toArray, List.set_cons_zero, List.set_cons_succ]; rfl
         ·
          exact hI.pure 4 (by decide) (fun h => absurd h (by decide)) (fun h => absurd h (by decide))
        case s5 =>
         refine rg_step rfl ?_
         rintro l a W ⟨γ1, γ2, κ2, rfl, hI⟩ hl hd
         clear hd
         refine rg_val (v := .slice (some ⟨gc, 0, none⟩) cur.length cc) (w' := W) rfl (by go_simp) ?_
         refine ⟨γ1, γ2, κ2, ?_, ?_⟩
         ·
          simp only [Act.put, List.setIfInBounds_toArray, List.set_cons_zero, List.set_cons_succ]; rfl
         ·
          exact hI.pure 5 (by decide) (fun h => absurd h (by decide)) (fun h => absurd h (by decide))
        case s6 =>
         refine rg_step rfl ?_
         rintro l a W ⟨γ1, γ2, κ2, rfl, hI⟩ hl hd
         have d5 := hd 5 (by decide)
         clear hd
         refine rg_val (v := .agg #[.slice (some ⟨gc, 0, none⟩) cur.length cc]) (w' := W) rfl (by go_simp) ?_
         refine ⟨γ1, γ2, κ2, ?_, ?_⟩
         ·
          simp only [Act.put, List.setIfInBounds_toArray, List.set_cons_zero, List.set_cons_succ]; rfl
         ·
          exact hI.pure 6 (by decide) (fun h => absurd h (by decide)) (fun h => absurd h (by decide))
        case s7 =>
         refine rg_step rfl ?_
         rintro l a W ⟨γ1, γ2, κ2, rfl, hI⟩ hl hd
         clear hd
         refine rg_val (v := .pointer (some ⟨δ, 0, none⟩)) (w' := W) rfl (by go_simp) ?_
         refine ⟨γ1, γ2, κ2, ?_, ?_⟩
         ·
          simp only [Act.put, List.setIfInBounds_toArray, List.set_cons_zero, List.set_cons_succ]; rfl
         ·
          exact hI.pure 7 (by decide) (fun h => absurd h (by decide)) (fun h => absurd h (by decide))
        case s8 =>
         refine rg_step rfl ?_
         rintro l a W ⟨γ1, γ2, κ2, rfl, hI⟩ hl hd
         have d7 := hd 7 (by decide)
         clear hd
         refine rg_val (v := .pointer (some ⟨δ, 0, none⟩)) (w' := W) rfl (by go_simp) ?_
         refine ⟨γ1, γ2, κ2, ?_, ?_⟩
         ·
          simp only [Act.put, List.setIfInBounds_toArray, List.set_cons_zero, List.set_cons_succ]; rfl
         ·
          exact hI.pure 8 (by decide) (fun h => absurd h (by decide)) (fun h => absurd h (by decide))
        case s9 =>
         refine rg_step rfl ?_
         rintro l a W ⟨γ1, γ2, κ2, rfl, hI⟩ hl hd
         have d8 := hd 8 (by decide)
         clear hd
         refine rg_val (v := .pointer (some ⟨δ, 2, none⟩)) (w' := W) rfl (by go_simp) ?_
         refine ⟨γ1, γ2, κ2, ?_, ?_⟩
         ·
          simp only [Act.put, List.setIfInBounds_toArray, List.set_cons_zero, List.set_cons_succ]; rfl
         ·
          exact hI.pure 9 (by decide) (fun h => absurd h (by decide)) (fun h => absurd h (by decide))
        case s10 =>
         refine rg_step rfl ?_
         rintro l a W ⟨γ1, γ2, κ2, rfl, hI⟩ hl hd
         have d9 := hd 9 (by decide)
         clear hd
         have hb := hI.hA (hI.no10 hl)
         have x0 := blk_cell (blk_below HTT.out.ht hb) 2
         simp at x0
         refine rg_val (v := .slice A9 done.length c9) (w' := W) rfl (by go_simp) ?_
         refine ⟨γ1, γ2, κ2, ?_, ?_⟩
         ·
          simp only [Act.put, List.setIfInBounds_toArray, List.set_cons_zero, List.set_cons_succ]; rfl
         ·
          exact hI.pure 10 (by decide) (fun h => absurd h (by decide)) (fun h => absurd h (by decide))
        case s11 =>
         refine rg_step rfl ?_
         rintro l a W ⟨γ1, γ2, κ2, rfl, hI⟩ hl hd
         have d10 := hd 10 (by decide)
         clear hd
         refine rg_val (v := .int .i64 (done.length : Int)) (w' := W) rfl (by go_simp) ?_
         refine ⟨γ1, γ2, κ2, ?_, ?_⟩
         ·
          simp only [Act.put, List.setIfInBounds_toArray, List.set_cons_zero, List.set_cons_succ]; rfl
         ·
          exact hI.pure 11 (by decide) (fun _ => d10) (fun h => absurd h (by decide))
        case s12 =>
         refine rg_step rfl ?_
         rintro l a W ⟨γ1, γ2, κ2, rfl, hI⟩ hl hd
         have d6 := hd 6 (by decide)
         have d11 := hd 11 (by decide)
         clear hd
         refine rg_val (v := .agg #[.slice (some ⟨gc, 0, none⟩) cur.length cc, .int .i64 (done.length : Int)]) (w' := W) rfl (by go_simp) ?_
         refine ⟨γ1, γ2, κ2, ?_, ?_⟩
         ·
          simp only [Act.put, List.setIfInBounds_toArray, List.set_cons_zero, List.set_cons_succ]; rfl
         ·
          exact hI.pure 12 (by decide) (fun h => absurd h (by decide)) (fun _ => d11)
        case s13 =>
         refine rg_step rfl ?_
         rintro l a W ⟨γ1, γ2, κ2, rfl, hI⟩ hl hd
         have d12 := hd 12 (by decide)
         clear hd
         refine rg_val (v := .slice (some ⟨W.heap.size, 0, none⟩) 1 1) (w' := W.alloc (.cells #[.slice (some ⟨gc, 0, none⟩) cur.length cc, .int .i64 (done.length : Int)] 109 (0, 0))) rfl (by go_simp) ?_
         have h14 := hI.no13 hl
         refine ⟨W.heap.size, γ2, κ2, ?_, ?_⟩
         ·
          simp only [Act.put, List.setIfInBounds_toArray, List.set_cons_zero, List.set_cons_succ]; rfl
         ·
          exact hI.made hl d12
        case s14 =>
         refine rg_step rfl ?_
         rintro l a W ⟨γ1, γ2, κ2, rfl, hI⟩ hl hd
         have d4 := hd 4 (by decide)
         have d13 := hd 13 (by decide)
         clear hd
         have h14 : l 14 = false := hl
         have h17 := hI.no17 h14
         have hb := hI.hA h14
         have hgt := hI.hT d13 h14
         obtain ⟨g, κ', W', hrun, hown, hgr, hgg, -⟩ := run_append_lies (P := Tryd.prog) W 103 103 (w.heap.size + 3) 109 j0 (.agg #[.slice none 0 0, .int .i64 0]) 2 32 Tryd.underlying103 hj hj0 hj1 hj2 rfl (by decide) (.slice A9 done.length c9) done.length _ (ownB HTT.out.hv hb) ⟨γ1, 0, none⟩ 1 1 [.slice (some ⟨gc, 0, none⟩) cur.length cc, .int .i64 (done.length : Int)] rfl (World.news_of_block hgt) (by
          intro u hu
          simp only [List.mem_cons, List.not_mem_nil, or_false] at hu
          rcases hu with rfl | rfl <;> rfl) (by decide) (by have := HMM.out.1; unfold maxLen; omega) (by have := HMM.out.1; omega) (by have := HTT.out.bx.lt; have := hb.size; omega) W.heap.size rfl
         refine rg_val (v := .slice (some ⟨g, 0, none⟩) (done.length + 1) κ') (w' := W') rfl (exec_append (.tmp 62) (.tmp 71) 103 rfl (.slice A9 done.length c9) (.slice (some ⟨γ1, 0, none⟩) 1 1) (by show sel (l 4) _ _ = _; rw [d4]; rfl) (by show sel (l 13) _ _ = _; rw [d13]; rfl) hrun) ?_
         refine ⟨γ1, g, κ', ?_, ?_⟩
         ·
          simp only [Act.put, List.setIfInBounds_toArray, List.set_cons_zero, List.set_cons_succ]; rfl
         ·
          exact hI.appended HTT.out hl d13 d4 hgr hown hgg
        case s15 =>
         refine rg_step rfl ?_
         rintro l a W ⟨γ1, γ2, κ2, rfl, hI⟩ hl hd
         have d0 := hd 0 (by decide)
         clear hd
         refine rg_val (v := .pointer (some ⟨δ, 0, none⟩)) (w' := W) rfl (by go_simp) ?_
         refine ⟨γ1, γ2, κ2, ?_, ?_⟩
         ·
          simp only [Act.put, List.setIfInBounds_toArray, List.set_cons_zero, List.set_cons_succ]; rfl
         ·
          exact hI.pure 15 (by decide) (fun h => absurd h (by decide)) (fun h => absurd h (by decide))
        case s16 =>
         refine rg_step rfl ?_
         rintro l a W ⟨γ1, γ2, κ2, rfl, hI⟩ hl hd
         have d15 := hd 15 (by decide)
         clear hd
         refine rg_val (v := .pointer (some ⟨δ, 2, none⟩)) (w' := W) rfl (by go_simp) ?_
         refine ⟨γ1, γ2, κ2, ?_, ?_⟩
         ·
          simp only [Act.put, List.setIfInBounds_toArray, List.set_cons_zero, List.set_cons_succ]; rfl
         ·
          exact hI.pure 16 (by decide) (fun h => absurd h (by decide)) (fun h => absurd h (by decide))
        case s17 =>
         refine rg_step rfl ?_
         rintro l a W ⟨γ1, γ2, κ2, rfl, hI⟩ hl hd
         have d14 := hd 14 (by decide)
         have d16 := hd 16 (by decide)
         clear hd
         obtain ⟨q1, q2, q3, q4⟩ := hI.hP d14 hl
         have hx := (q1 δ (blk_lt HTT.out.ht) (fun e => HTT.out.av δ e (List.mem_cons_self ..))).trans HTT.out.ht
         have y2 := blk_cell hx 2
         have yf := fun i => blk_frozen hx i
         simp at y2
         refine rg_skip rfl (by go_simp; rfl) ?_
         refine ⟨γ1, γ2, κ2, ?_, ?_⟩
         ·
          simp only [Act.put, List.setIfInBounds_toArray, List.set_cons_zero, List.set_cons_succ]; rfl
         ·
          exact hI.stored HTT.out HH.out.c HOO.out hl d14
       case hend =>
        rintro l a W ⟨γ1, γ2, κ2, rfl, hI⟩ hall
        have e0 := hall 0 (by decide)
        have e1 := hall 1 (by decide)
        have e2 := hall 2 (by decide)
        have e3 := hall 3 (by decide)
        have e4 := hall 4 (by decide)
        have e5 := hall 5 (by decide)
        have e6 := hall 6 (by decide)
        have e7 := hall 7 (by decide)
        have e8 := hall 8 (by decide)
        have e9 := hall 9 (by decide)
        have e10 := hall 10 (by decide)
        have e11 := hall 11 (by decide)
        have e12 := hall 12 (by decide)
        have e13 := hall 13 (by decide)
        have e14 := hall 14 (by decide)
        have e15 := hall 15 (by decide)
        have e16 := hall 16 (by decide)
        have e17 := hall 17 (by decide)
        clear hall
        have hQ := hI.hQ e17
        simp only [e0, e1, e2, e3, e4, e5, e6, e7, e8, e9, e10, e11, e12, e13, e14, e15, e16, e17, sel_true]
        clear e0 e1 e2 e3 e4 e5 e6 e7 e8 e9 e10 e11 e12 e13 e14 e15 e16 e17
        clear hI
        have HQ := aM' hQ
        clear hQ
        go_upto_region 17 with (fail)
        refine wp_forget (fun x => ({ tmps := #[.int .i64 wd, .slice (some ad) ls.length c, .pointer (some ⟨w.heap.size, 0, none⟩), x 3, .pointer (some ⟨w.heap.size + 1, 0, none⟩), .pointer (some ⟨w.heap.size + 1 + 1, 0, none⟩), x 6, x 7, .slice (some ⟨gc, 0, none⟩) cur.length cc, x 9, x 10, .pointer (some ⟨δ, 0, none⟩), x 12, x 13, x 14, x 15, x 16, x 17, x 18, x 19, x 20, x 21, x 22, x 23, x 24, x 25, x 26, x 27, x 28, x 29, x 30, x 31, x 32, x 33, x 34, x 35, x 36, x 37, x 38, x 39, x 40, x 41, x 42, x 43, x 44, x 45, x 46, x 47, x 48, x 49, x 50, x 51, x 52, x 53, x 54, x 55, x 56, x 57, x 58, x 59, x 60, x 61, x 62, x 63, x 64, x 65, x 66, x 67, x 68, x 69, x 70, x 71, x 72, x 73, x 74, x 75, x 76, x 77, x 78, x 79, x 80, x 81, x 82, x 83, x 84, x 85, x 86, x 87, x 88, x 89, x 90, x 91, x 92, x 93, x 94, x 95, x 96, x 97, x 98, x 99, x 100], defers := ds.map markD } : Act)) rfl ?_
        intro x
        by_cases h1 : cur.length = 1
        ·
         have b1 : ((cur.length : Int) == 1) = true := by simp; omega
         obtain ⟨ht, hr⟩ := HH.out.one h1
         have x4 := blk_cell HQ.out.bx.h4 0
         have x5 := blk_cell HQ.out.bx.h5 0
         have f4 := fun i => blk_frozen HQ.out.bx.h4 i
         have f5 := fun i => blk_frozen HQ.out.bx.h5 i
         simp at x4 x5
         have HR2 := aM' hr
         have HT2 := aM' ht
         clear h1 hr ht
         go_wp2
         exact newDone HQ.out HH.out.d rfl rfl (newI_ok HW.out HP.out HALL.out HT2.out) HR2.out
        ·
         have b1 : ((cur.length : Int) == 1) = false := by simp; omega
         have H1 := aM' h1
         clear h1
         go_wp2_with fail
         obtain ⟨b12, hb12⟩ : ∃ b, b = W.heap.size := ⟨_, rfl⟩
         obtain ⟨W2, hW2⟩ : ∃ V, V = W.alloc (.cells #[.slice none 0 0] 43) := ⟨_, rfl⟩
         have hx2 : NxS w wd ls δ γ κ (.slice (some ⟨γ2, 0, none⟩) (done.length + 1) κ2) (gs ++ [(gc, cc)]) (done ++ [cur]) ds b12 (b12 + 3) [] W2 := by
          rw [hW2, hb12]
          exact ⟨by omega, HQ.out.below (below_alloc (Below.refl _ _) _), HQ.out.bd, none, 0, blk_new W _, World.ownsRow_nil _ _ _ _⟩
         have hs2 : W2.heap.size = b12 + 1 := by rw [hW2, hb12]; simp
         obtain ⟨k, K, e1, -⟩ := HH.out.k
         obtain ⟨m, hm, hm1⟩ : ∃ m, cur.length = 2 * m ∧ 1 ≤ m := by
          cases k with
          | zero => exact absurd e1 H1.out
          | succ k => exact ⟨2 ^ k, by rw [e1, Nat.pow_succ, Nat.mul_comm], Nat.two_pow_pos k⟩
         rw [← hW2, ← hb12]
         clear hW2 hb12 b1 e1
         refine (chunk.calls (some ⟨gc, 0, none⟩) cur.length cc W2).mono ?_
         rintro e w3 ⟨rfl, hw3⟩
         have hS : w3.heap[W2.heap.size]? = some (.cells #[.slice (some ⟨gc, 0, none⟩) cur.length cc] 43 (0, 0)) := by rw [hw3]; exact blk_alloc (blk_new W2 _) _
         have hN : w3.heap[W2.heap.size + 1]? = some (.cells #[.int .i64 2] 3 (0, 0)) := by
          rw [hw3]
          have := blk_new (W2.alloc (.cells #[.slice (some ⟨gc, 0, none⟩) cur.length cc] 43)) (.cells #[.int .i64 2] 3)
          rwa [World.size_alloc] at this
         have hb3 : Below W2.heap.size W2 w3 := by rw [hw3]; exact below_alloc (below_alloc (Below.refl _ _) _) _
         have hx3 := hx2.below hb3
         have hz3 : w3.heap.size = W2.heap.size + 2 := by rw [hw3]; simp
         have HS2 := aM' hS
         have HN2 := aM' hN
         have HX3 := aM' hx3
         have HZ := aM' (And.intro hz3 hs2)
         have HM := aM' (And.intro hm hm1)
         clear hw3 hS hN hx3 hz3 hs2 hx2 hm hm1 hb3
         have HL9 := aM' HH.out.t.hg.len
         have HM5 := aM' (show m ≤ 1000000 by have := HM.out.1; have := HH.out.m.2.1; omega)
         have hW3 : w3.heap.size = b12 + 3 := by have := HZ.out.1; have := HZ.out.2; omega
         have HW3 := aM' hW3
         clear hW3
         go_wp2_with fail
         refine wp_forget (fun x => ({ tmps := #[.int .i64 wd, .slice (some ad) ls.length c, .pointer (some ⟨w.heap.size, 0, none⟩), x 3, .pointer (some ⟨w.heap.size + 1, 0, none⟩), .pointer (some ⟨w.heap.size + 1 + 1, 0, none⟩), x 6, x 7, .slice (some ⟨gc, 0, none⟩) cur.length cc, x 9, x 10, .pointer (some ⟨δ, 0, none⟩), .pointer (some ⟨b12, 0, none⟩), x 13, x 14, x 15, x 16, x 17, x 18, x 19, x 20, x 21, x 22, x 23, x 24, x 25, x 26, x 27, x 28, x 29, x 30, x 31, x 32, x 33, x 34, x 35, x 36, x 37, x 38, x 39, x 40, x 41, x 42, x 43, x 44, x 45, x 46, x 47, x 48, x 49, x 50, x 51, x 52, x 53, x 54, x 55, x 56, x 57, x 58, x 59, x 60, x 61, x 62, x 63, x 64, x 65, x 66, x 67, x 68, x 69, x 70, x 71, x 72, x 73, x 74, x 75, x 76, x 77, x 78, x 79, .func (.func 95) #[] #[.pointer (some ⟨W2.heap.size, 0, none⟩), .pointer (some ⟨W2.heap.size + 1, 0, none⟩)], x 81, x 82, x 83, x 84, x 85, x 86, x 87, x 88, x 89, x 90, x 91, x 92, x 93, x 94, x 95, x 96, x 97, x 98, x 99, x 100], defers := ds.map markD } : Act)) rfl ?_
         intro x
         refine (wpIn_wide (n := 3)).1 ?_
         refine wpIn_rangeFunc_ownH (α := { j : Nat // j < m }) (n := 3) rfl (by omega) (gf := 95) (lb := #[.pointer (some ⟨W2.heap.size, 0, none⟩), .pointer (some ⟨W2.heap.size + 1, 0, none⟩)]) rfl trivial (enters_of Tryd.func95 (by kernel_rfl) rfl) (encs := fun y => #[chunkV ⟨gc, 0, none⟩ y.1]) (Kp := KeepS (fun k => k = W2.heap.size ∨ k = W2.heap.size + 1))
          (S := fun ys => ys.map Subtype.val = List.range m) (Sp := fun pre => True) (N := m) (w0 := w3) ?hseq (fun h k => KeepS.trans h k) ?hKb (Below.refl _ _) (fun _ => rfl)
          (fun pre V => (∀ y ∈ pre, twoOk cur y.1) ∧ NxS w wd ls δ γ κ (.slice (some ⟨γ2, 0, none⟩) (done.length + 1) κ2) (gs ++ [(gc, cc)]) (done ++ [cur]) ds b12 (b12 + 3) (pre.map fun y => twoV wd cur y.1) V ∧ w3.heap.size ≤ V.heap.size)
          (fun c2 pre V => c2 = .ret ∧ (∃ y ∈ pre, ¬ twoOk cur y.1) ∧ NxE w ds V)
          ?hI ?hIx ⟨fun y hy => absurd hy (List.not_mem_nil), HX3.out, Nat.le_refl _⟩
          (fun y a' V => a' = ({ tmps := #[.int .i64 wd, .slice (some ad) ls.length c, .pointer (some ⟨w.heap.size, 0, none⟩), x 3, .pointer (some ⟨w.heap.size + 1, 0, none⟩), .pointer (some ⟨w.heap.size + 1 + 1, 0, none⟩), x 6, x 7, .slice (some ⟨gc, 0, none⟩) cur.length cc, x 9, x 10, .pointer (some ⟨δ, 0, none⟩), .pointer (some ⟨b12, 0, none⟩), chunkV ⟨gc, 0, none⟩ y.1, x 14, x 15, x 16, x 17, x 18, x 19, x 20, x 21, x 22, x 23, x 24, x 25, x 26, x 27, x 28, x 29, x 30, x 31, x 32, x 33, x 34, x 35, x 36, x 37, x 38, x 39, x 40, x 41, x 42, x 43, x 44, x 45, x 46, x 47, x 48, x 49, x 50, x 51, x 52, x 53, x 54, x 55, x 56, x 57, x 58, x 59, x 60, x 61, x 62, x 63, x 64, x 65, x 66, x 67, x 68, x 69, x 70, x 71, x 72, x 73, x 74, x 75, x 76, x 77, x 78, x 79, .func (.func 95) #[] #[.pointer (some ⟨W2.heap.size, 0, none⟩), .pointer (some ⟨W2.heap.size + 1, 0, none⟩)], chunkV ⟨gc, 0, none⟩ y.1, x 82, x 83, x 84, x 85, x 86, x 87, x 88, x 89, x 90, x 91, x 92, x 93, x 94, x 95, x 96, x 97, x 98, x 99, x 100], defers := [] } : Act)) ?hAx ?assign ?body ?done ?stop
         case hKb =>
          intro W' l2 o o' hl2 ho hc hw k hk
          have := HZ.out
          exact World.putObj_heap_other (by rcases hk with rfl | rfl <;> omega)
         case hI =>
          rintro s X Y row ⟨h1, h2, h3⟩ hg hr
          exact ⟨h1, h2.grown hg (fun r e => by have h4 := hr r e; exact ⟨by have := h4.1; have := HW3.out; omega, h4.2⟩), Nat.le_trans h3 hg.size⟩
         case hIx =>
          rintro c2 s X Y row ⟨rfl, h1, h2⟩ hg hr
          exact ⟨rfl, h1, h2.grown (H := b12 + 3) hg (fun r e => by have := (hr r e).1; have := HW3.out; omega) (by have := HX3.out.bd.b; omega) (fun D hD => by have := HX3.out.bd.d D hD; omega)⟩
         case hAx =>
          rintro y a' s X Y row h hg hr
          exact h
         case hseq =>
          intro l2 J Jx W hW hJ hJx hY h0
          refine (chunk1_in 2 (by omega) l2 W2.heap.size (W2.heap.size + 1) W.heap.size ⟨gc, 0, none⟩ m cur.length cc HM.out.1 HM5.out (ownNodes_C (HX3.out.t.hg.last HL9.out)).2.1 (fun k => k = W2.heap.size ∨ k = W2.heap.size + 1) (.inl rfl) (.inr rfl)
           (fun pre W => ∃ pre' : List { j : Nat // j < m }, pre'.map Subtype.val = pre ∧ J pre' W) (fun pre W => ∃ pre' : List { j : Nat // j < m }, pre'.map Subtype.val = pre ∧ Jx pre' W)
           (fun s X Y row ⟨pre', e, h⟩ hg hr => ⟨pre', e, hJ _ _ _ row h hg hr⟩) ?_ W (blk_below HS2.out hW) (blk_below HN2.out hW) ⟨[], rfl, h0⟩).mono ?_
          ·
           rintro j W1 ⟨pre', e1, hj⟩ hlt
           have hpl : pre'.length = j := by have := congrArg List.length e1; simpa using this
           obtain ⟨fn, tmps, asg, bd, hy, hR⟩ := hY pre' ⟨j, hlt⟩ W1 hj (by omega)
           refine ⟨fn, tmps, asg, bd, hy, hR.mono ?_⟩
           rintro e W2 (⟨rfl, h1, h2⟩ | ⟨rfl, h1⟩)
           ·
            exact .inl ⟨rfl, ⟨_, by rw [List.map_append, e1, List.range_succ]; rfl, h1⟩, h2⟩
           ·
            exact .inr ⟨rfl, ⟨_, by rw [List.map_append, e1, List.range_succ]; rfl, h1⟩⟩
          ·
           rintro e W2 ⟨hv, ⟨ys', e1, h1⟩ | ⟨j, hj, pre', e1, h1⟩⟩
           ·
            exact ⟨hv, .inl ⟨ys', e1, h1⟩⟩
           ·
            exact ⟨hv, .inr ⟨pre', trivial, h1⟩⟩
         case assign =>
          rintro l2 pre y W K hI hK
          gi_wp2
          exact hK _ _ (KeepsFrom.refl _ _) (fun k hk => rfl) hI rfl
         case body =>
          rintro l2 pre ⟨j, hj⟩ a' Wb hl2 - ⟨hok, hP, hz⟩ rfl hlen
          have hjl : 2 * j + 1 < cur.length := by have := HM.out.1; omega
          obtain ⟨na, ha⟩ : ∃ na, na = cur.getD (2 * j) zeroN := ⟨_, rfl⟩
          obtain ⟨nb, hb⟩ : ∃ nb, nb = cur.getD (2 * j + 1) zeroN := ⟨_, rfl⟩
          obtain ⟨ap, hap⟩ : ∃ ap, ap = (⟨gc, 0, none⟩ : Addr).add (2 * j * 3) := ⟨_, rfl⟩
          have hka : NodeK wd na := HH.out.n _ (by rw [ha]; have h1 : cur.getD (2 * j) zeroN = cur[2 * j]'(by omega) := (by simp [List.getD_eq_getElem?_getD, show 2 * j < cur.length by omega]); rw [h1]; exact List.getElem_mem _)
          have hkb : NodeK wd nb := HH.out.n _ (by rw [hb]; have h1 : cur.getD (2 * j + 1) zeroN = cur[2 * j + 1] := (by simp [List.getD_eq_getElem?_getD, hjl]); rw [h1]; exact List.getElem_mem _)
          have htw : twoV wd cur j = joinV wd na nb := by rw [ha, hb]; rfl
          have hto : twoOk cur j ↔ valU na.f1 + valU nb.f1 < 340282366920938463463374607431768211456 := by rw [ha, hb]; rfl
          have HT := fun (V : World) (hV : Below Wb.heap.size Wb V) => two_at' ((ownNodes_C ((hP.below hV).t.hg.last HL9.out)).2.2) j hjl na nb ha hb ap hap
          have hch : chunkV ⟨gc, 0, none⟩ j = .slice (some ap) 2 2 := by rw [hap]; rfl
          obtain ⟨kj, hkj⟩ := (join_ev wd na nb hka.u hkb.u).rounds
          have HT := aM' HT
          have HKA := aM' hka
          have HKB := aM' hkb
          have HTW := aM' htw
          have HTO := aM' hto
          have HOK := aM' hok
          have HP := aM' hP
          have HZZ := aM' hz
          have HLEN := aM' hlen
          have HKJ := aM' hkj
          dsimp only
          rw [hch]
          clear ha hb hap hka hkb htw hto hok hP hz hlen hch hjl hkj
          rcases hjn : joinI wd na nb with ⟨r1, r2, r3, r4⟩
          rw [hjn] at HKJ
          have HJN := aM' hjn
          clear hjn
          gi_wp2
          refine region_invIn (fun l a W => ∃ γx : Nat, a = ({ tmps := #[.int .i64 wd, .slice (some ad) ls.length c, .pointer (some ⟨w.heap.size, 0, none⟩), x 3, .pointer (some ⟨w.heap.size + 1, 0, none⟩), .pointer (some ⟨w.heap.size + 1 + 1, 0, none⟩), x 6, x 7, .slice (some ⟨gc, 0, none⟩) cur.length cc, x 9, x 10, .pointer (some ⟨δ, 0, none⟩), .pointer (some ⟨b12, 0, none⟩), .slice (some ap) 2 2, sel (l 11) (.pointer (some ⟨γx, 0, none⟩)) (x 14), sel (l 13) (.int .i64 r4) (x 15), x 16, x 17, x 18, x 19, x 20, x 21, x 22, x 23, x 24, x 25, x 26, x 27, x 28, x 29, x 30, x 31, x 32, x 33, x 34, x 35, x 36, x 37, x 38, x 39, x 40, x 41, x 42, x 43, x 44, x 45, x 46, x 47, x 48, x 49, x 50, x 51, x 52, x 53, x 54, x 55, x 56, x 57, x 58, x 59, x 60, x 61, x 62, x 63, x 64, x 65, x 66, x 67, x 68, x 69, x 70, x 71, x 72, x 73, x 74, x 75, x 76, x 77, x 78, x 79, .func (.func 95) #[] #[.pointer (some ⟨W2.heap.size, 0, none⟩), .pointer (some ⟨W2.heap.size + 1, 0, none⟩)], .slice (some ap) 2 2, sel (l 8) (.tuple #[.agg #[.string r1, .int .u64 r2, .int .u64 r3], .int .i64 r4]) (x 82), sel (l 0) (.int .i64 wd) (x 83), sel (l 1) (.slice (some ap) 2 2) (x 84), sel (l 2) (.pointer (some ap)) (x 85), sel (l 3) (.agg #[.string na.f0, .int .u64 na.f1.f0, .int .u64 na.f1.f1]) (x 86), sel (l 4) (.slice (some ap) 2 2) (x 87), sel (l 5) (.pointer (some (ap.add 3))) (x 88), sel (l 6) (.agg #[.string nb.f0, .int .u64 nb.f1.f0, .int .u64 nb.f1.f1]) (x 89), sel (l 7) (.tuple #[.agg #[.string r1, .int .u64 r2, .int .u64 r3], .int .i64 r4]) (x 90), sel (l 9) (.agg #[.string r1, .int .u64 r2, .int .u64 r3]) (x 91), sel (l 10) (.int .i64 r4) (x 92), x 93, x 94, x 95, x 96, x 97, x 98, x 99, x 100], defers := [] } : Act) ∧ Pr4 Wb W ⟨r1, ⟨r2, r3⟩⟩ l γx) 14 rfl rfl (by kernel_rfl) ?h0 ?hend ?hstep
          case h0 => exact ⟨0, rfl, below_drew (Below.refl _ _), (fun h => by cases h), (fun h => by cases h)⟩
          case hstep =>
           refine rg_cons (rg_cons (rg_cons (rg_cons (rg_cons (rg_cons (rg_cons (rg_cons (rg_cons (rg_cons (rg_cons (rg_cons (rg_cons (rg_cons (rg_nil) ?s0) ?s1) ?s2) ?s3) ?s4) ?s5) ?s6) ?s7) ?s8) ?s9) ?s10) ?s11) ?s12) ?s13
           case s0 =>
            refine rgi_step rfl ?_
            rintro l a W ⟨γx, rfl, hI⟩ hl hd
            clear hd
            have x0 := blk_cell (HP.out.below hI.hB).t.bx.h2 0
            simp at x0
            refine rgi_val (v := .int .i64 wd) (w' := W) (fun _ => trivial) rfl (fun _ h => by cases h) (by go_simp) ?_
            refine ⟨γx, ?_, ?_⟩
            ·
             simp only [Act.put, List.setIfInBounds_toArray, List.set_cons_zero, List.set_cons_succ]; rfl
            ·
             exact hI.other _ (by decide) (by decide) (Below.refl _ _)
           case s1 =>
            refine rgi_step rfl ?_
            rintro l a W ⟨γx, rfl, hI⟩ hl hd
            clear hd
            refine rgi_val (v := .slice (some ap) 2 2) (w' := W) (fun _ => trivial) rfl (fun _ h => by cases h) (by go_simp) ?_
            refine ⟨γx, ?_, ?_⟩
            ·
             simp only [Act.put, List.setIfInBounds_toArray, List.set_cons_zero, List.set_cons_succ]; rfl
            ·
             exact hI.other _ (by decide) (by decide) (Below.refl _ _)
           case s2 =>
            refine rgi_step rfl ?_
            rintro l a W ⟨γx, rfl, hI⟩ hl hd
            have d1 := hd 1 (by decide)
            clear hd
            refine rgi_val (v := .pointer (some ap)) (w' := W) (fun _ => trivial) rfl (fun _ h => by cases h) (by go_simp) ?_
            refine ⟨γx, ?_, ?_⟩
            ·
             simp only [Act.put, List.setIfInBounds_toArray, List.set_cons_zero, List.set_cons_succ]; rfl
            ·
             exact hI.other _ (by decide) (by decide) (Below.refl _ _)
           case s3 =>
            refine rgi_step rfl ?_
            rintro l a W ⟨γx, rfl, hI⟩ hl hd
            have d2 := hd 2 (by decide)
            clear hd
            obtain ⟨⟨x0, x1, x2⟩, y0, y1, y2⟩ := HT.out W hI.hB
            refine rgi_val (v := .agg #[.string na.f0, .int .u64 na.f1.f0, .int .u64 na.f1.f1]) (w' := W) (fun _ => trivial) rfl (fun _ h => by cases h) (by go_simp) ?_
            refine ⟨γx, ?_, ?_⟩
            ·
             simp only [Act.put, List.setIfInBounds_toArray, List.set_cons_zero, List.set_cons_succ]; rfl
            ·
             exact hI.other _ (by decide) (by decide) (Below.refl _ _)
           case s4 =>
            refine rgi_step rfl ?_
            rintro l a W ⟨γx, rfl, hI⟩ hl hd
            clear hd
            refine rgi_val (v := .slice (some ap) 2 2) (w' := W) (fun _ => trivial) rfl (fun _ h => by cases h) (by go_simp) ?_
            refine ⟨γx, ?_, ?_⟩
            ·
             simp only [Act.put, List.setIfInBounds_toArray, List.set_cons_zero, List.set_cons_succ]; rfl
            ·
             exact hI.other _ (by decide) (by decide) (Below.refl _ _)
           case s5 =>
            refine rgi_step rfl ?_
            rintro l a W ⟨γx, rfl, hI⟩ hl hd
            have d4 := hd 4 (by decide)
            clear hd
            refine rgi_val (v := .pointer (some (ap.add 3))) (w' := W) (fun _ => trivial) rfl (fun _ h => by cases h) (by go_simp) ?_
            refine ⟨γx, ?_, ?_⟩
            ·
             simp only [Act.put, List.setIfInBounds_toArray, List.set_cons_zero, List.set_cons_succ]; rfl
            ·
             exact hI.other _ (by decide) (by decide) (Below.refl _ _)
           case s6 =>
            refine rgi_step rfl ?_
            rintro l a W ⟨γx, rfl, hI⟩ hl hd
            have d5 := hd 5 (by decide)
            clear hd
            obtain ⟨⟨x0, x1, x2⟩, y0, y1, y2⟩ := HT.out W hI.hB
            refine rgi_val (v := .agg #[.string nb.f0, .int .u64 nb.f1.f0, .int .u64 nb.f1.f1]) (w' := W) (fun _ => trivial) rfl (fun _ h => by cases h) (by go_simp) ?_
            refine ⟨γx, ?_, ?_⟩
            ·
             simp only [Act.put, List.setIfInBounds_toArray, List.set_cons_zero, List.set_cons_succ]; rfl
            ·
             exact hI.other _ (by decide) (by decide) (Below.refl _ _)
           case s7 =>
            refine rgi_step rfl ?_
            rintro l a W ⟨γx, rfl, hI⟩ hl hd
            have d0 := hd 0 (by decide)
            have d3 := hd 3 (by decide)
            have d6 := hd 6 (by decide)
            clear hd
            refine rgi_call (fun _ => trivial) rfl rfl (fun _ h => by cases h) (by go_simp; exact ⟨rfl, rfl⟩) ?_
            refine (CallsIn.inRound l2 (callsIn_wide.2 (node_Join.calls kj wd na.f0 na.f1.f0 na.f1.f1 nb.f0 nb.f1.f0 nb.f1.f1 r1 r2 r3 r4 W (HK.out.below (HP.out.t.bx.hB.trans (hI.hB.mono HP.out.t.bx.hB.size))).1 HKJ.out))).mono ?_
            rintro xx W' ⟨rfl, hb⟩
            refine ⟨_, rfl, γx, ?_, ?_⟩
            ·
             simp only [Act.put, List.setIfInBounds_toArray, List.set_cons_zero, List.set_cons_succ]; rfl
            ·
             exact hI.other 7 (by decide) (by decide) hb
           case s8 =>
            refine rgi_step rfl ?_
            rintro l a W ⟨γx, rfl, hI⟩ hl hd
            have d7 := hd 7 (by decide)
            clear hd
            refine rgi_val (v := .tuple #[.agg #[.string r1, .int .u64 r2, .int .u64 r3], .int .i64 r4]) (w' := W) (fun _ => trivial) rfl (fun _ h => by cases h) (by go_simp) ?_
            refine ⟨γx, ?_, ?_⟩
            ·
             simp only [Act.put, List.setIfInBounds_toArray, List.set_cons_zero, List.set_cons_succ]; rfl
            ·
             exact hI.other _ (by decide) (by decide) (Below.refl _ _)
           case s9 =>
            refine rgi_step rfl ?_
            rintro l a W ⟨γx, rfl, hI⟩ hl hd
            have d8 := hd 8 (by decide)
            clear hd
            refine rgi_val (v := .agg #[.string r1, .int .u64 r2, .int .u64 r3]) (w' := W) (fun _ => trivial) rfl (fun _ h => by cases h) (by go_simp) ?_
            refine ⟨γx, ?_, ?_⟩
            ·
             simp only [Act.put, List.setIfInBounds_toArray, List.set_cons_zero, List.set_cons_succ]; rfl
            ·
             exact hI.other _ (by decide) (by decide) (Below.refl _ _)
           case s10 =>
            refine rgi_step rfl ?_
            rintro l a W ⟨γx, rfl, hI⟩ hl hd
            have d8 := hd 8 (by decide)
            clear hd
            refine rgi_val (v := .int .i64 r4) (w' := W) (fun _ => trivial) rfl (fun _ h => by cases h) (by go_simp) ?_
            refine ⟨γx, ?_, ?_⟩
            ·
             simp only [Act.put, List.setIfInBounds_toArray, List.set_cons_zero, List.set_cons_succ]; rfl
            ·
             exact hI.other _ (by decide) (by decide) (Below.refl _ _)
           case s11 =>
            refine rgi_step rfl ?_
            rintro l a W ⟨γx, rfl, hI⟩ hl hd
            clear hd
            refine rgi_val (v := .pointer (some ⟨W.heap.size, 0, none⟩)) (w' := W.alloc (.cells #[.string ⟨#[]⟩, .int .u64 0, .int .u64 0] 46 (0, 0))) (fun _ => trivial) rfl (fun _ h => by cases h) (by go_simp) ?_
            refine ⟨W.heap.size, ?_, ?_⟩
            ·
             simp only [Act.put, List.setIfInBounds_toArray, List.set_cons_zero, List.set_cons_succ]; rfl
            ·
             exact hI.alloc hl
           case s12 =>
            refine rgi_step rfl ?_
            rintro l a W ⟨γx, rfl, hI⟩ hl hd
            have d11 := hd 11 (by decide)
            have d9 := hd 9 (by decide)
            clear hd
            have hg := (hI.hg d11).2
            rw [show l 12 = false from hl, if_neg (by decide)] at hg
            have y0 := blk_cell hg 0
            have y1 := blk_cell hg 1
            have y2 := blk_cell hg 2
            have yf := fun i => blk_frozen hg i
            simp at y0 y1 y2
            refine rgi_skip (fun _ => trivial) rfl (fun _ h => by cases h) (by go_simp; rfl) ?_
            refine ⟨γx, ?_, ?_⟩
            ·
             simp only [Act.put, List.setIfInBounds_toArray, List.set_cons_zero, List.set_cons_succ]; rfl
            ·
             exact hI.store d11 hl
           case s13 =>
            refine rgi_step rfl ?_
            rintro l a W ⟨γx, rfl, hI⟩ hl hd
            have d10 := hd 10 (by decide)
            clear hd
            refine rgi_val (v := .int .i64 r4) (w' := W) (fun _ => trivial) rfl (fun _ h => by cases h) (by go_simp) ?_
            refine ⟨γx, ?_, ?_⟩
            ·
             simp only [Act.put, List.setIfInBounds_toArray, List.set_cons_zero, List.set_cons_succ]; rfl
            ·
             exact hI.other _ (by decide) (by decide) (Below.refl _ _)
          case hend =>
           rintro l a W ⟨γx, rfl, hI⟩ hall
           have e0 := hall 0 (by decide)
           have e1 := hall 1 (by decide)
           have e2 := hall 2 (by decide)
           have e3 := hall 3 (by decide)
           have e4 := hall 4 (by decide)
           have e5 := hall 5 (by decide)
           have e6 := hall 6 (by decide)
           have e7 := hall 7 (by decide)
           have e8 := hall 8 (by decide)
           have e9 := hall 9 (by decide)
           have e10 := hall 10 (by decide)
           have e11 := hall 11 (by decide)
           have e12 := hall 12 (by decide)
           have e13 := hall 13 (by decide)
           clear hall
           have hD := hI.hg e11
           rw [if_pos e12] at hD
           obtain ⟨hγ, hγc⟩ := hD
           have hBb := hI.hB
           have hP5 := HP.out.below hBb
           have HBb := aM' hBb
           have HP5 := aM' hP5
           have HG := aM' hγ
           have HGC := aM' hγc
           clear hI hγ hγc hBb hP5 HP
           simp only [e0, e1, e2, e3, e4, e5, e6, e7, e8, e9, e10, e11, e12, e13, sel_true]
           clear e0 e1 e2 e3 e4 e5 e6 e7 e8 e9 e10 e11 e12 e13
           obtain ⟨dn, hdn⟩ : ∃ dn, (pre.map fun y => twoV wd cur y.1) = dn := ⟨_, rfl⟩
           rw [hdn] at HP5
           have hdl : dn.length = pre.length := by rw [← hdn]; simp
           have HDN := aM' hdn
           have HDL := aM' hdl
           obtain ⟨A12, c12, hbx, hown0⟩ := HP5.out.b
           have HBX := aM' hbx
           have HOWN0 := aM' hown0
           have hbd := HP5.out.bd
           have HBD := aM' hbd
           have hw3 := HW3.out
           have hz := HZ.out
           have hzz := HZZ.out
           have hbz := HBb.out.size
           have hlt := HP5.out.lt
           have HSZ := aM' (show b12 < W.heap.size ∧ b12 + 3 ≤ Wb.heap.size ∧ Wb.heap.size ≤ W.heap.size ∧ W2.heap.size = b12 + 1 ∧ w3.heap.size = b12 + 3 from ⟨hlt, by omega, hbz, hz.2, hw3⟩)
           have y12 : W.cell? ⟨b12, 0, none⟩ = some (.slice A12 dn.length c12) := blk_cell hbx 0
           have y0 : W.cell? ⟨γx, 0, none⟩ = some (.string r1) := blk_cell HGC.out 0
           have y1 : W.cell? ⟨γx, 1, none⟩ = some (.int .u64 r2) := blk_cell HGC.out 1
           have y2 : W.cell? ⟨γx, 2, none⟩ = some (.int .u64 r3) := blk_cell HGC.out 2
           clear hdn hdl hbx hown0 hbd hw3 hz hzz hbz hlt
           by_cases h0 : r4 = 0
           ·
            subst h0
            have hroom : valU na.f1 + valU nb.f1 < 340282366920938463463374607431768211456 := by
             rcases Int.lt_or_le (valU na.f1 + valU nb.f1) 340282366920938463463374607431768211456 with h | h
             ·
              exact h
             ·
              have := joinI_full HKA.out HKB.out (by omega)
              rw [HJN.out] at this
              simp at this
            have hjv : (⟨r1, ⟨r2, r3⟩⟩ : SNode) = joinV wd na nb := by
             have := joinI_room HKA.out HKB.out hroom
             rw [HJN.out] at this
             simp only [Prod.mk.injEq] at this
             obtain ⟨e1, e2, e3, -⟩ := this
             rw [e1, e2, e3]
            have HRM := aM' hroom
            have HJV := aM' hjv
            clear hroom hjv
            gi_upto_region 25 with (fail)
            refine wpIn_region_list ?_
            refine li_val (v := .slice A12 dn.length c12) (w' := W) rfl (fun _ => trivial) (fun _ h => by cases h) (by go_simp; done) ?_
            refine li_val (v := .agg #[.string r1, .int .u64 r2, .int .u64 r3]) (w' := W) rfl (fun _ => trivial) (fun _ h => by cases h) (by go_simp; done) ?_
            refine li_val (v := .slice (some ⟨W.heap.size, 0, none⟩) 1 1) (w' := W.alloc (.cells #[.string r1, .int .u64 r2, .int .u64 r3] 46 (0, 0))) rfl (fun _ => trivial) (fun _ h => by cases h) (by go_simp; done) ?_
            refine wpListIn_append_own _ rfl _ _ 43 rfl (b12 + 3) 46 i0 (.agg #[(.string ⟨#[]⟩), (.int .u64 0), (.int .u64 0)]) 3 32 Tryd.underlying43 hi hz0 hz1 hz2 rfl (by decide) (.slice A12 dn.length c12) dn.length (cellsN dn) rfl ?own ⟨W.heap.size, 0, none⟩ 1 1 [.string r1, .int .u64 r2, .int .u64 r3] rfl rfl ?cells ?one ?b1 ?b2 ?b3 ?_
            (case own => exact ownB HOWN0.out (below_alloc (Below.refl _ _) _))
            (case cells => exact World.news_of_block (blk_new W _))
            (case one => intro u hu; simp at hu; rcases hu with rfl | rfl | rfl <;> rfl)
            (case b1 => have h1 := HLEN.out; have h2 := HDL.out; have := HM5.out; unfold maxLen; omega)
            (case b2 => have h1 := HLEN.out; have h2 := HDL.out; have := HM5.out; omega)
            (case b3 => rw [World.size_alloc]; have := HSZ.out; omega)
            intro v' w7 hown hgr hnil
            obtain ⟨g, cap, rfl, -, hg7⟩ := hown.form (by omega)
            have HOWN := aM' hown
            have HGR := aM' hgr
            have hne : ∀ e, (Value.slice A12 dn.length c12).ownBlock = some e → b12 + 3 ≤ e := fun e he => (HOWN0.out.lt e he).1
            have HNE := aM' hne
            have hz6 := (hgr.block b12 (by rw [World.size_alloc]; have := HSZ.out; omega) (fun e => by have := hne _ e.symm; omega)).trans (blk_alloc HBX.out _)
            have z6 : w7.cell? ⟨b12, 0, none⟩ = some (.slice A12 dn.length c12) := blk_cell hz6 0
            have zf : ∀ i, w7.frozen? ⟨b12, i, none⟩ = false := fun i => blk_frozen hz6 i
            clear hown hgr hz6 hnil hne hg7
            refine li_skip (w' := w7.setCell ⟨b12, 0, none⟩ (.slice (some ⟨g, 0, none⟩) (dn.length + 1) cap)) rfl (fun _ => trivial) (fun _ h => by cases h) (by go_simp; first | done | rfl) ?_
            gi_wp2
            have hW1 : ∀ k, k < Wb.heap.size → (W.alloc (.cells #[.string r1, .int .u64 r2, .int .u64 r3] 46 (0, 0))).heap[k]? = Wb.heap[k]? := fun k hk => by
             rw [(below_alloc (Below.refl W.heap.size W) _).block k (lL' hk HSZ.out.2.2.1)]
             exact HBb.out.block k hk
            have hend : ∀ k, k < Wb.heap.size → (Value.slice A12 dn.length c12).ownBlock ≠ some k → k ≠ b12 → (w7.setCell ⟨b12, 0, none⟩ (.slice (some ⟨g, 0, none⟩) (dn.length + 1) cap)).heap[k]? = Wb.heap[k]? := fun k hk h1 h2 =>
             (Below.heap_setCell _ _ _ _ h2).trans ((HGR.out.block k (by rw [World.size_alloc]; have := HSZ.out; omega) (fun e => h1 e.symm)).trans (hW1 k hk))
            have hsz : Wb.heap.size ≤ w7.heap.size := by have h1 := HGR.out.size; rw [World.size_alloc] at h1; have := HSZ.out; omega
            refine ⟨⟨by simpa using hsz, fun k o hk h0 ho => ?_⟩, ?_, ?_, ?_, ?_⟩
            ·
             rw [hend k (Array.getElem?_eq_some_iff.1 h0).1 (fun e => ?_) (by have := HSZ.out; omega)]
             ·
              exact h0
             ·
              obtain ⟨cs, h3⟩ := own_cells HOWN0.out e
              rw [HBb.out.block k (Array.getElem?_eq_some_iff.1 h0).1] at h3
              rw [h0] at h3
              cases h3
              cases ho
            ·
             intro k hk
             refine hend k (by have := HSZ.out; rcases hk with rfl | rfl <;> omega) (fun e => by have := HNE.out _ e; have := HSZ.out; rcases hk with rfl | rfl <;> omega) (by have := HSZ.out; rcases hk with rfl | rfl <;> omega)
            ·
             intro y hy
             rcases List.mem_append.1 hy with hy | hy
             ·
              exact HOK.out y hy
             ·
              obtain rfl := List.mem_singleton.1 hy
              exact HTO.out.2 HRM.out
            ·
             have hm := (HP5.out.below (below_alloc (Below.refl _ _) (.cells #[.string r1, .int .u64 r2, .int .u64 r3] 46))).more (x := ⟨r1, ⟨r2, r3⟩⟩) (blk_alloc HBX.out _) (ownB HOWN0.out (below_alloc (Below.refl _ _) _)) HGR.out HOWN.out
             rw [List.map_append, HDN.out]
             have hx : (List.map (fun y : { j : Nat // j < m } => twoV wd cur y.1) [⟨j, hj⟩]) = [⟨r1, ⟨r2, r3⟩⟩] := by rw [HJV.out, ← HTW.out]; rfl
             rw [hx]
             exact hm
            ·
             exact Nat.le_trans HZZ.out (by simpa using hsz)
           ·
            have b1 : (r4 != 0) = true := by simp [h0]
            have hroom : ¬ valU na.f1 + valU nb.f1 < 340282366920938463463374607431768211456 := fun h => by
             have := joinI_room HKA.out HKB.out h
             rw [HJN.out] at this
             simp only [Prod.mk.injEq] at this
             exact h0 this.2.2.2
            have h10 : r4 = 10 := by
             have := joinI_full HKA.out HKB.out hroom
             rw [HJN.out] at this
             simp only [Prod.mk.injEq] at this
             exact this.2.2.2
            have HRM := aM' hroom
            clear hroom
            have y4 : W.cell? ⟨w.heap.size + 1, 0, none⟩ = some (.pointer none) := blk_cell HP5.out.t.bx.h4 0
            have f4 : ∀ i, W.frozen? ⟨w.heap.size + 1, i, none⟩ = false := fun i => blk_frozen HP5.out.t.bx.h4 i
            have y5 : W.cell? ⟨w.heap.size + 1 + 1, 0, none⟩ = some (.int .i64 0) := blk_cell HP5.out.t.bx.h5 0
            have f5 : ∀ i, W.frozen? ⟨w.heap.size + 1 + 1, i, none⟩ = false := fun i => blk_frozen HP5.out.t.bx.h5 i
            gi_wp2
            have hNE : NxE w ds ((W.setCell ⟨w.heap.size + 1, 0, none⟩ (.pointer none)).setCell ⟨w.heap.size + 1 + 1, 0, none⟩ (.int .i64 10)) := NxE.made HP5.out.t
            refine ⟨⟨by have := HSZ.out; simpa using this.2.2.1, fun k o hk h0 ho => ?_⟩, rfl, ⟨j, ⟨hj, by simp⟩, fun h => absurd (HTO.out.1 h) (by have := HRM.out; omega)⟩, by first | exact hNE | (rw [h10]; exact hNE)⟩
            have := HBD.out.b
            have := HSZ.out
            exact (Below.heap_setCell _ _ _ _ (by show k ≠ w.heap.size + 1 + 1; omega)).trans ((Below.heap_setCell _ _ _ _ (by show k ≠ w.heap.size + 1; omega)).trans ((HBb.out.block k (Array.getElem?_eq_some_iff.1 h0).1).trans h0))
         case done =>
          rintro D ys W hD hys ⟨hok, hP, hz⟩ hdf
          have hdn : (ys.map fun y => twoV wd cur y.1) = pairsV wd cur := by
           rw [pairsV_range wd m cur HM.out.1, ← hys, List.map_map]; rfl
          have hpo : pairsOk cur = true := (pairsOk_range m cur HM.out.1).2 (fun j hj => by
           have h1 : j ∈ ys.map Subtype.val := by rw [hys]; exact List.mem_range.2 hj
           obtain ⟨y, hy, rfl⟩ := List.mem_map.1 h1
           exact hok y hy)
          rw [hdn] at hP
          have hpl : (pairsV wd cur).length = m := pairsV_len wd m cur HM.out.1
          obtain ⟨A12, c12, hbx, hown⟩ := hP.b
          rw [hpl] at hbx hown
          obtain ⟨g, cap, hv, -, -⟩ := hown.form HM.out.2
          cases hv
          have HNX := aM' (HH.out.next HM.out.1 HM.out.2 hpo hP hown (by have := HW3.out; omega) hdf)
          have y12 : W.cell? ⟨b12, 0, none⟩ = some (.slice (some ⟨g, 0, none⟩) m c12) := blk_cell hbx 0
          have HPL := aM' hpl
          clear hok hP hz hdn hpo hpl hbx hown hdf hys hD
          dsimp only
          go_wp2
          refine ⟨?_, ?_⟩
          ·
           rw [HI.out]
           refine ⟨fun i => if i = 12 then .pointer (some ⟨b12, 0, none⟩) else if i = 80 then .func (.func 95) #[] #[.pointer (some ⟨W2.heap.size, 0, none⟩), .pointer (some ⟨W2.heap.size + 1, 0, none⟩)] else if i = 100 then .slice (some ⟨g, 0, none⟩) m c12 else x i, gs ++ [(gc, cc)], done ++ [cur], D :: ds, pairsV wd cur, g, c12, some ⟨γ2, 0, none⟩, κ2, ?_, HNX.out⟩
           rw [HPL.out]
           rfl
          ·
           show m < cur.length
           have := HM.out
           omega
         case stop =>
          rintro D c2 pre W hD - ⟨rfl, ⟨y, hy, hno⟩, hE⟩ hdf
          have hpo : pairsOk cur = false := by
           cases h : pairsOk cur with
           | false => rfl
           | true => exact absurd ((pairsOk_range m cur HM.out.1).1 h y.1 y.2) hno
          have htot : ¬ totL (ls.map (leafNodeI wd)) < 340282366920938463463374607431768211456 := by
           rw [← HH.out.s]
           exact pairsOk_tot m cur HM.out.1 HH.out.n hpo
          have HE := aM' hE
          have HDF := aM' hdf
          have HTOT := aM' htot
          have HDB := aM' hD
          clear hE hdf htot hD hno hpo
          gi_wp2
          refine newErrD (ds := D :: ds) HE.out.hB (List.nodup_cons.2 ⟨fun h => by have := HX3.out.bd.d D h; have := HDB.out; have := HW3.out; omega, HH.out.t.dn⟩) (fun D' hD' => ?_) (fun D' hD' => ?_) rfl rfl HE.out.h4 HE.out.h5 (newI_full HW.out HP.out HALL.out (by have := HTOT.out; omega)) (by decide)
          ·
           rcases List.mem_cons.1 hD' with rfl | hD'
           ·
            exact HDF.out
           ·
            exact HE.out.hd D' hD'
          ·
           rcases List.mem_cons.1 hD' with rfl | hD'
           ·
            have := HDB.out; have := HW3.out; have := HX3.out.bd.b; omega
           ·
            exact HH.out.d D' hD'
end Go.Proofs.YtfcodmdckcihmaaDoor.P
namespace Go.Proofs.YtfcodmdckcihmaaDoor.P
open Go.RowKit Go.Proofs.YtfcodmdckcihmaaDoorW.PrintWords Go.Proofs.YtfcodmdckcihmaaDoorW.PrintLast Go.Proofs.YtfcodmdckcihmaaDoorW.PrintMore
set_option linter.unusedVariables false
set_option linter.unusedSimpArgs false
set_option linter.unnecessarySimpa false
theorem TreeOwn.far {base a gl cl : Nat} {VV : Value} {gs : List RowG} {T : STree} {W W' : World} (h : TreeOwn base W a T gl cl VV gs) (hk : ∀ k, base ≤ k → k < W.heap.size → W'.heap[k]? = W.heap[k]?) : TreeOwn base W' a T gl cl VV gs := by
 have hg := h.hl.lt gl rfl
 exact ⟨(hk a h.lo (blk_lt h.ht)).trans h.ht, own_keep h.hl (hk gl hg.1 hg.2), ownAny_keep h.hv (fun g hgg => hk g (h.hv.lt g hgg).1 (h.hv.lt g hgg).2), h.hg.keep (fun k hm => hk k (h.hg.lt k hm).1 (h.hg.lt k hm).2), h.ap, h.av, h.lo⟩
theorem cellsV_get : ∀ (i n : Nat) (gs : List RowG) (rs : List (List SNode)) (p : RowG) (r : List SNode), gs[n]? = some p → rs[n]? = some r → (cellsV i gs rs)[n * 2]? = some (rowV p r) ∧ (cellsV i gs rs)[n * 2 + 1]? = some (.int .i64 ((i + n : Nat) : Int))
 | i, n, [], rs, p, r, h, _ => by simp at h
 | i, n, q :: gs, [], p, r, _, h => by simp at h
 | i, 0, q :: gs, s :: rs, p, r, h1, h2 => by
  obtain rfl := Option.some.inj h1
  obtain rfl := Option.some.inj h2
  exact ⟨rfl, rfl⟩
 | i, n + 1, q :: gs, s :: rs, p, r, h1, h2 => by
  have := cellsV_get (i + 1) n gs rs p r (by simpa using h1) (by simpa using h2)
  rw [cellsV, show (n + 1) * 2 = n * 2 + 2 by omega]
  simp only [List.getElem?_cons_succ]
  refine ⟨this.1, ?_⟩
  rw [this.2, show i + 1 + n = i + (n + 1) by omega]
theorem OwnRows.get {W : World} {base : Nat} : ∀ {gs : List RowG} {rs : List (List SNode)} {n : Nat} {r : List SNode}, OwnRows W base gs rs → rs[n]? = some r → ∃ p, gs[n]? = some p ∧ W.ownsRow base 46 3 (rowV p r) r.length (cellsN r)
 | [], [], n, r, _, h => by simp at h
 | p :: gs, s :: rs, 0, r, h, hr => by
  obtain rfl := Option.some.inj hr
  exact ⟨p, rfl, h.1⟩
 | p :: gs, s :: rs, n + 1, r, h, hr => by
  obtain ⟨q, h1, h2⟩ := h.2.get (n := n) (by simpa using hr)
  exact ⟨q, by simpa using h1, h2⟩
theorem TreeOwn.read {base a gl cl : Nat} {VV : Value} {gs : List RowG} {T : STree} {W : World} (h : TreeOwn base W a T gl cl VV gs) (hl : 1 ≤ T.leaves.length ∧ T.leaves.length ≤ 1024) (hv : 1 ≤ T.rows.length ∧ T.rows.length ≤ 11) (hr : ∀ r ∈ T.rows, 1 ≤ r.length ∧ r.length ≤ 1024) : TreeR a T W := by
 obtain ⟨q1, q2, q3⟩ := ownLeaves_C h.hl
 obtain ⟨gv, cv, hvv, hbb, hlt⟩ := h.hv.form hv.1
 have ht := h.ht
 rw [hvv] at ht
 have hcap : T.rows.length ≤ cv := by
  rcases h.hv.2 with ⟨_, h2⟩ | ⟨g', cap', cur, h1, _, _, h2, _⟩
  ·
   omega
  ·
   rw [hvv] at h1; cases h1; exact h2
 have hcell := h.hv.cells (g := gv) (by rw [hvv]; rfl)
 refine ⟨some ⟨gl, 0, none⟩, cl, ⟨gv, 0, none⟩, cv, ht, q2, q3, hl.1, hl.2, hcap, hv.1, hv.2, fun i hi => ?_⟩
 obtain ⟨p, hp, ho⟩ := h.hg.get (n := i) (List.getElem?_eq_getElem hi)
 obtain ⟨c1, c2⟩ := cellsV_get 0 i gs T.rows p T.rows[i] hp (List.getElem?_eq_getElem hi)
 obtain ⟨r1, r2, r3⟩ := ownNodes_C ho
 have hm := hr T.rows[i] (List.getElem_mem hi)
 refine ⟨⟨p.1, 0, none⟩, p.2, hcell _ _ c1, ?_, r2, r3, hm⟩
 have := hcell _ _ c2
 rw [Nat.zero_add] at this
 have ea : ∀ n, (⟨gv, 0, none⟩ : Addr).add n = ⟨gv, n, none⟩ := fun n => by unfold Addr.add; split <;> simp_all
 rw [ea] at this ⊢
 exact this
theorem levels_ok {wd : Int} {ls : List SLeaf} (hk : NewOk wd ls) (hn : ls.length ≤ 1024) : (1 ≤ (treeT wd ls).rows.length ∧ (treeT wd ls).rows.length ≤ 11) ∧ (∀ r ∈ (treeT wd ls).rows, 1 ≤ r.length ∧ r.length ≤ 1024) ∧ 1 ≤ ls.length := by
 have h : (treeT wd ls).rows = levelsV wd ls.length.log2 (ls.map (leafNodeI wd)) := rfl
 have hp := hk.p
 have hK : ls.length.log2 ≤ 10 := by
  rcases Nat.lt_or_ge 10 ls.length.log2 with h1 | h1
  ·
   have h2 := Nat.pow_le_pow_right (n := 2) (by decide) (show 11 ≤ ls.length.log2 by omega)
   omega
  ·
   exact h1
 rw [h, levelsV_len]
 refine ⟨⟨by omega, by omega⟩, fun r hr => ?_, by have := Nat.two_pow_pos ls.length.log2; omega⟩
 obtain ⟨i, hi, rfl⟩ := List.getElem_of_mem hr
 have hi2 : i ≤ ls.length.log2 := by rw [levelsV_len] at hi; omega
 have e := levelsV_get wd ls.length.log2 i (ls.map (leafNodeI wd)) hi2
 rw [List.getElem?_eq_getElem hi] at e
 rw [Option.some.inj e, (up_ok (K := ls.length.log2) (by rw [List.length_map]; exact hk.p) hk.k hk.t i hi2).1]
 have h1 := Nat.two_pow_pos (ls.length.log2 - i)
 have h2 : 2 ^ (ls.length.log2 - i) ≤ 2 ^ ls.length.log2 := Nat.pow_le_pow_right (by decide) (by omega)
 omega
theorem TreeOwn.readT {base a gl cl : Nat} {VV : Value} {gs : List RowG} {wd : Int} {ls : List SLeaf} {W : World} (h : TreeOwn base W a (treeT wd ls) gl cl VV gs) (hk : NewOk wd ls) (hn : ls.length ≤ 1024) : TreeR a (treeT wd ls) W := by
 obtain ⟨h1, h2, h3⟩ := levels_ok hk hn
 exact h.read ⟨h3, hn⟩ h1 h2
end Go.Proofs.YtfcodmdckcihmaaDoor.P
namespace Go.Proofs.YtfcodmdckcihmaaDoor.P
open Go.RowKit Go.Proofs.YtfcodmdckcihmaaDoorW.PrintWords Go.Proofs.YtfcodmdckcihmaaDoorW.PrintLast Go.Proofs.YtfcodmdckcihmaaDoorW.PrintMore
set_option linter.unusedVariables false
set_option linter.unusedSimpArgs false
set_option linter.unnecessarySimpa false
theorem own_put {w : World} {base g n cap size : Nat} {e : TypeId} {xs : List Value} (h : w.ownsRow base e size (.slice (some ⟨g, 0, none⟩) n cap) n xs) (i : Nat) (v : Value) : (w.setCell ⟨g, i, none⟩ v).ownsRow base e size (.slice (some ⟨g, 0, none⟩) n cap) n (xs.set i v) := by
 obtain ⟨hlen, h⟩ := h
 refine ⟨by rw [List.length_set]; exact hlen, ?_⟩
 rcases h with ⟨h, _⟩ | ⟨g', cap', cur, hv, hb, hg, hcap, hmax, hsz, htk⟩
 ·
  cases h
 ·
  cases hv
  exact .inr ⟨_, _, cur.setIfInBounds i v, rfl, hb, blk_put hg i v rfl, hcap, hmax, by simpa using hsz, by rw [Array.toList_setIfInBounds, List.take_set, htk]⟩
theorem cellsL_set (x : SLeaf) : ∀ (l : List SLeaf) (p : Nat), p < l.length → (((((cellsL l).set (p * 5) (.bool x.f0)).set (p * 5 + 1) (.string x.f1)).set (p * 5 + 2) (.string x.f2)).set (p * 5 + 3) (.int .u64 x.f3.f0)).set (p * 5 + 4) (.int .u64 x.f3.f1) = cellsL (l.set p x)
 | y :: l, 0, _ => rfl
 | y :: l, p + 1, h => by
  have ih := cellsL_set x l p (by simpa using h)
  rw [List.set_cons_succ, cellsL, cellsL, ← ih, show (p + 1) * 5 = p * 5 + 1 + 1 + 1 + 1 + 1 by omega]
  simp only [List.set_cons_succ, show p * 5 + 1 + 1 + 1 + 1 + 1 + 1 = (p * 5 + 1) + 1 + 1 + 1 + 1 + 1 by omega, show p * 5 + 1 + 1 + 1 + 1 + 1 + 2 = (p * 5 + 2) + 1 + 1 + 1 + 1 + 1 by omega, show p * 5 + 1 + 1 + 1 + 1 + 1 + 3 = (p * 5 + 3) + 1 + 1 + 1 + 1 + 1 by omega, show p * 5 + 1 + 1 + 1 + 1 + 1 + 4 = (p * 5 + 4) + 1 + 1 + 1 + 1 + 1 by omega]
theorem cellsN_set (x : SNode) : ∀ (l : List SNode) (p : Nat), p < l.length → (((cellsN l).set (p * 3) (.string x.f0)).set (p * 3 + 1) (.int .u64 x.f1.f0)).set (p * 3 + 2) (.int .u64 x.f1.f1) = cellsN (l.set p x)
 | y :: l, 0, _ => rfl
 | y :: l, p + 1, h => by
  have ih := cellsN_set x l p (by simpa using h)
  rw [List.set_cons_succ, cellsN, cellsN, ← ih]
  simp only [List.set_cons_succ, show (p + 1) * 3 = p * 3 + 1 + 1 + 1 by omega, show p * 3 + 1 + 1 + 1 + 1 = (p * 3 + 1) + 1 + 1 + 1 by omega, show p * 3 + 1 + 1 + 1 + 2 = (p * 3 + 2) + 1 + 1 + 1 by omega]
theorem cellsV_set {r r' : List SNode} (hl : r'.length = r.length) : ∀ (i j : Nat) (gs : List RowG) (rs : List (List SNode)), rs[j]? = some r → cellsV i gs (rs.set j r') = cellsV i gs rs
 | i, j, [], rs, _ => by cases rs <;> rfl
 | i, j, p :: gs, [], h => by simp at h
 | i, 0, p :: gs, s :: rs, h => by
  obtain rfl := Option.some.inj h
  rw [List.set_cons_zero, cellsV, cellsV, hl]
 | i, j + 1, p :: gs, s :: rs, h => by
  rw [List.set_cons_succ, cellsV, cellsV, cellsV_set hl (i + 1) j gs rs (by simpa using h)]
theorem OwnRows.put {W W' : World} {base : Nat} : ∀ {gs : List RowG} {rs : List (List SNode)} {i : Nat} {p : RowG} {r' : List SNode}, OwnRows W base gs rs → (gs.map Prod.fst).Nodup → gs[i]? = some p → W'.ownsRow base 46 3 (rowV p r') r'.length (cellsN r') → (∀ k ∈ gs.map Prod.fst, k ≠ p.1 → W'.heap[k]? = W.heap[k]?) → OwnRows W' base gs (rs.set i r')
 | [], [], i, p, r', _, _, hp, _, _ => by simp at hp
 | q :: gs, s :: rs, 0, p, r', h, hn, hp, ho, hk => by
  obtain rfl := Option.some.inj hp
  rw [List.map_cons] at hn
  obtain ⟨n1, n2⟩ := List.nodup_cons.1 hn
  exact ⟨ho, h.2.keep (fun k hm => hk k (by simp at hm ⊢; exact .inr hm) (fun e => n1 (e ▸ hm)))⟩
 | q :: gs, s :: rs, i + 1, p, r', h, hn, hp, ho, hk => by
  rw [List.map_cons] at hn
  obtain ⟨n1, n2⟩ := List.nodup_cons.1 hn
  have hp2 : gs[i]? = some p := by simpa using hp
  have hm : p.1 ∈ gs.map Prod.fst := List.mem_map.2 ⟨p, List.mem_of_getElem? hp2, rfl⟩
  exact ⟨own_keep h.1 (hk q.1 (by simp) (fun e => n1 (e ▸ hm))), h.2.put n2 hp2 ho (fun k hm hne => hk k (by simp at hm ⊢; exact .inr hm) hne)⟩
structure Tch (S : List Nat) (w w' : World) : Prop where
 os : w'.os = w.os
 tape : w'.tape = w.tape
 output : w'.output = w.output
 size : w.heap.size ≤ w'.heap.size
 block : ∀ k, k < w.heap.size → k ∉ S → w'.heap[k]? = w.heap[k]?
theorem Tch.of {S : List Nat} {w w' : World} (h : Below w.heap.size w w') : Tch S w w' := ⟨h.os, h.tape, h.output, h.size, fun k hk _ => h.block k hk⟩
theorem Tch.refl (S : List Nat) (w : World) : Tch S w w := .of (Below.refl _ _)
theorem Tch.trans {S : List Nat} {w w1 w2 : World} (h : Tch S w w1) (h2 : Tch S w1 w2) : Tch S w w2 :=
 ⟨h2.os.trans h.os, h2.tape.trans h.tape, h2.output.trans h.output, Nat.le_trans h.size h2.size, fun k hk hn => (h2.block k (lL' hk h.size) hn).trans (h.block k hk hn)⟩
theorem Tch.below {S : List Nat} {w w1 w2 : World} (h : Tch S w w1) (h2 : Below w1.heap.size w1 w2) : Tch S w w2 := h.trans (.of h2)
theorem Tch.set {S : List Nat} {w W : World} (h : Tch S w W) {g i : Nat} (v : Value) (hg : g ∈ S ∨ w.heap.size ≤ g) : Tch S w (W.setCell ⟨g, i, none⟩ v) :=
 ⟨h.os, h.tape, h.output, by simpa using h.size, fun k hk hn => (Below.heap_setCell _ _ _ _ (by
  show k ≠ g
  rintro rfl
  rcases hg with h | h
  ·
   exact hn h
  ·
   omega)).trans (h.block k hk hn)⟩
abbrev RowG.blocks (gs : List RowG) : List Nat := gs.map Prod.fst
abbrev parts (gl : Nat) (gs : List RowG) : List Nat := gl :: gs.map Prod.fst
theorem TreeOwn.keep {base a gl cl : Nat} {VV : Value} {gs : List RowG} {T : STree} {W W' : World} (h : TreeOwn base W a T gl cl VV gs) (hb : Below W.heap.size W W') : TreeOwn base W' a T gl cl VV gs := h.far (fun k _ hk => hb.block k hk)
theorem TreeOwn.lt {base a gl cl : Nat} {VV : Value} {gs : List RowG} {T : STree} {W : World} (h : TreeOwn base W a T gl cl VV gs) : ∀ k ∈ parts gl gs, base ≤ k ∧ k < W.heap.size := by
 intro k hk
 rcases List.mem_cons.1 hk with rfl | hk
 ·
  exact h.hl.lt _ rfl
 ·
  exact h.hg.lt k hk
theorem TreeOwn.putNode {base a gl cl : Nat} {VV : Value} {gs : List RowG} {T : STree} {W : World} (h : TreeOwn base W a T gl cl VV gs) {i q : Nat} {p : RowG} {r : List SNode} (x : SNode) (hp : gs[i]? = some p) (hr : T.rows[i]? = some r) (hq : q < r.length) :
  TreeOwn base (((W.setCell ⟨p.1, q * 3, none⟩ (.string x.f0)).setCell ⟨p.1, q * 3 + 1, none⟩ (.int .u64 x.f1.f0)).setCell ⟨p.1, q * 3 + 2, none⟩ (.int .u64 x.f1.f1)) a ⟨T.wd, T.leaves, T.rows.set i (r.set q x)⟩ gl cl VV gs := by
 obtain ⟨p', hp', hown⟩ := h.hg.get hr
 rw [hp] at hp'
 obtain rfl := Option.some.inj hp'
 have hm : p.1 ∈ gs.map Prod.fst := List.mem_map.2 ⟨p, List.mem_of_getElem? hp, rfl⟩
 have hap := h.ap
 have h1 : a ≠ p.1 := fun e => (List.nodup_cons.1 hap).1 (e ▸ List.mem_cons_of_mem _ hm)
 have h2 : gl ≠ p.1 := fun e => (List.nodup_cons.1 (List.nodup_cons.1 hap).2).1 (e ▸ hm)
 have hk : ∀ k, k ≠ p.1 → (((W.setCell ⟨p.1, q * 3, none⟩ (.string x.f0)).setCell ⟨p.1, q * 3 + 1, none⟩ (.int .u64 x.f1.f0)).setCell ⟨p.1, q * 3 + 2, none⟩ (.int .u64 x.f1.f1)).heap[k]? = W.heap[k]? := fun k hk =>
  (Below.heap_setCell _ _ _ _ hk).trans ((Below.heap_setCell _ _ _ _ hk).trans (Below.heap_setCell _ _ _ _ hk))
 have hlen : (r.set q x).length = r.length := List.length_set ..
 have hown2 := own_put (own_put (own_put hown (q * 3) (.string x.f0)) (q * 3 + 1) (.int .u64 x.f1.f0)) (q * 3 + 2) (.int .u64 x.f1.f1)
 rw [cellsN_set x r q hq] at hown2
 refine ⟨(hk a h1).trans h.ht, own_keep h.hl (hk gl h2), ?_, ?_, h.ap, h.av, h.lo⟩
 ·
  show World.ownsRow _ base _ 2 VV (T.rows.set i (r.set q x)).length (cellsV 0 gs (T.rows.set i (r.set q x)))
  rw [List.length_set, cellsV_set hlen 0 i gs T.rows hr]
  refine ownAny_keep h.hv (fun g hg => hk g (fun e => h.av g hg (e ▸ ?_)))
  exact List.mem_cons_of_mem _ (List.mem_cons_of_mem _ hm)
 ·
  refine h.hg.put (List.nodup_cons.1 (List.nodup_cons.1 hap).2).2 hp ?_ (fun k _ hne => hk k hne)
  rw [hlen]
  rw [rowV, hlen]
  exact hown2
theorem TreeOwn.putLeaf {base a gl cl : Nat} {VV : Value} {gs : List RowG} {T : STree} {W : World} (h : TreeOwn base W a T gl cl VV gs) {p : Nat} (x : SLeaf) (hp : p < T.leaves.length) :
  TreeOwn base (((((W.setCell ⟨gl, p * 5, none⟩ (.bool x.f0)).setCell ⟨gl, p * 5 + 1, none⟩ (.string x.f1)).setCell ⟨gl, p * 5 + 2, none⟩ (.string x.f2)).setCell ⟨gl, p * 5 + 3, none⟩ (.int .u64 x.f3.f0)).setCell ⟨gl, p * 5 + 4, none⟩ (.int .u64 x.f3.f1)) a ⟨T.wd, T.leaves.set p x, T.rows⟩ gl cl VV gs := by
 have hap := h.ap
 have h1 : a ≠ gl := fun e => (List.nodup_cons.1 hap).1 (e ▸ List.mem_cons_self ..)
 have h2 : ∀ k ∈ gs.map Prod.fst, k ≠ gl := fun k hm e => (List.nodup_cons.1 (List.nodup_cons.1 hap).2).1 (e ▸ hm)
 have hk : ∀ k, k ≠ gl → (((((W.setCell ⟨gl, p * 5, none⟩ (.bool x.f0)).setCell ⟨gl, p * 5 + 1, none⟩ (.string x.f1)).setCell ⟨gl, p * 5 + 2, none⟩ (.string x.f2)).setCell ⟨gl, p * 5 + 3, none⟩ (.int .u64 x.f3.f0)).setCell ⟨gl, p * 5 + 4, none⟩ (.int .u64 x.f3.f1)).heap[k]? = W.heap[k]? := fun k hk =>
  (Below.heap_setCell _ _ _ _ hk).trans ((Below.heap_setCell _ _ _ _ hk).trans ((Below.heap_setCell _ _ _ _ hk).trans ((Below.heap_setCell _ _ _ _ hk).trans (Below.heap_setCell _ _ _ _ hk))))
 have hown2 := own_put (own_put (own_put (own_put (own_put h.hl (p * 5) (.bool x.f0)) (p * 5 + 1) (.string x.f1)) (p * 5 + 2) (.string x.f2)) (p * 5 + 3) (.int .u64 x.f3.f0)) (p * 5 + 4) (.int .u64 x.f3.f1)
 rw [cellsL_set x _ p hp] at hown2
 have hlen : (T.leaves.set p x).length = T.leaves.length := List.length_set ..
 refine ⟨?_, ?_, ownAny_keep h.hv (fun g hg => hk g (fun e => h.av g hg (e ▸ ?_))), h.hg.keep (fun k hm => hk k (h2 k hm)), h.ap, h.av, h.lo⟩
 ·
  show _ = some (Obj.cells #[_, .slice _ (T.leaves.set p x).length _, _] _ _)
  rw [hlen]; exact (hk a h1).trans h.ht
 ·
  show World.ownsRow _ base _ 5 (.slice _ (T.leaves.set p x).length _) (T.leaves.set p x).length _
  rw [hlen]; exact hown2
 ·
  exact List.mem_cons_of_mem _ (List.mem_cons_self ..)
theorem TreeOwn.levels {base a gl cl : Nat} {VV : Value} {gs : List RowG} {T : STree} {W : World} (h : TreeOwn base W a T gl cl VV gs) (hv : 1 ≤ T.rows.length) :
  ∃ gv cv, VV = .slice (some ⟨gv, 0, none⟩) T.rows.length cv ∧ T.rows.length ≤ cv ∧ gv < W.heap.size ∧ gv ∉ a :: gl :: gs.map Prod.fst := by
 obtain ⟨gv, cv, hvv, hbb, hlt⟩ := h.hv.form hv
 refine ⟨gv, cv, hvv, ?_, (h.hv.lt gv (by rw [hvv]; rfl)).2, h.av gv (by rw [hvv]; rfl)⟩
 rcases h.hv.2 with ⟨_, h2⟩ | ⟨g', cap', cur, h1, _, _, h2, _⟩
 ·
  omega
 ·
  rw [hvv] at h1; cases h1; exact h2
theorem TreeOwn.level {base a gl cl gv cv i : Nat} {gs : List RowG} {T : STree} {W : World} {r : List SNode} (h : TreeOwn base W a T gl cl (.slice (some ⟨gv, 0, none⟩) T.rows.length cv) gs) (hr : T.rows[i]? = some r) :
  ∃ p, gs[i]? = some p ∧ W.cell? ⟨gv, i * 2, none⟩ = some (rowV p r) ∧ W.cell? ⟨gv, i * 2 + 1, none⟩ = some (.int .i64 (i : Int)) ∧ r.length ≤ p.2 ∧ Kd.C kNode W (some ⟨p.1, 0, none⟩) r.length r ∧ p.1 ∈ gs.map Prod.fst ∧ ∃ c, W.heap[p.1]? = some (.cells c 46 (0, 0)) ∧ r.length * 3 ≤ c.size := by
 obtain ⟨p, hp, ho⟩ := h.hg.get hr
 obtain ⟨c1, c2⟩ := cellsV_get 0 i gs T.rows p r hp hr
 obtain ⟨r1, r2, r3⟩ := ownNodes_C ho
 have hcell := h.hv.cells (g := gv) rfl
 have ea : ∀ n, (⟨gv, 0, none⟩ : Addr).add n = ⟨gv, n, none⟩ := fun n => by unfold Addr.add; split <;> simp_all
 have c0 := hcell _ _ c1
 have := hcell _ _ c2
 rw [Nat.zero_add] at this
 rw [ea] at this c0
 refine ⟨p, hp, c0, this, r2, r3, List.mem_map.2 ⟨p, List.mem_of_getElem? hp, rfl⟩, ?_⟩
 rcases ho.2 with ⟨h1, _⟩ | ⟨g', cap', cur, h1, _, h2, h3, _, h5, _⟩
 ·
  cases h1
 ·
  cases h1
  exact ⟨cur, h2, by rw [h5]; exact Nat.mul_le_mul_right 3 h3⟩
end Go.Proofs.YtfcodmdckcihmaaDoor.P
namespace Go.Proofs.YtfcodmdckcihmaaDoor.P
open Go.RowKit Go.Proofs.YtfcodmdckcihmaaDoorW.PrintWords Go.Proofs.YtfcodmdckcihmaaDoorW.PrintLast Go.Proofs.YtfcodmdckcihmaaDoorW.PrintMore
set_option linter.unusedVariables false
set_option linter.unusedSimpArgs false
set_option linter.unnecessarySimpa false
def besN (n : Nat) : Nat := if n % 2 = 1 then n - 1 else n + 1
theorem xor_one (n : Nat) : n ^^^ 1 = besN n := by
 have h1 : (n ^^^ 1) / 2 = n / 2 := by rw [Nat.xor_div_two]; simp
 have h2 : (n ^^^ 1) % 2 = (n + 1) % 2 := by
  have h := Nat.xor_mod_two_eq_one (a := n) (b := 1)
  have h3 := Nat.mod_two_eq_zero_or_one (n ^^^ 1)
  have h4 := Nat.mod_two_eq_zero_or_one n
  simp only [show (1 : Nat) % 2 = 1 from rfl, iff_true] at h
  generalize (n ^^^ 1) % 2 = u at h h3 ⊢
  omega
 unfold besN
 split <;> omega
theorem bits_bes (n : Nat) (h : n < 18446744073709551616) : Go.bits .xor .u64 (n : Int) 1 = (besN n : Int) := by
 have := bits_xor_u64_nat n 1 h (by decide)
 rw [xor_one] at this
 exact this
theorem bits_odd (n : Nat) (h : n < 18446744073709551616) : Go.bits .and .u64 (n : Int) 1 = ((n % 2 : Nat) : Int) := by
 have := bits_and_u64_nat n 1 h (by decide)
 rw [Nat.and_one_is_mod] at this
 exact this
end Go.Proofs.YtfcodmdckcihmaaDoor.P
namespace Go.Proofs.YtfcodmdckcihmaaDoor.P
open Go.RowKit Go.Proofs.YtfcodmdckcihmaaDoorW.PrintWords Go.Proofs.YtfcodmdckcihmaaDoorW.PrintLast Go.Proofs.YtfcodmdckcihmaaDoorW.PrintMore
set_option linter.unusedVariables false
set_option linter.unusedSimpArgs false
set_option linter.unnecessarySimpa false
attribute [local go_sem] sel_true
def SetPost (base a gl cl : Nat) (VV : Value) (gs : List RowG) (wd : Int) (ls : List SLeaf) (p : Nat) (x : SLeaf) (w : World) (e : Ending) (w' : World) : Prop :=
 e = .returned (.int .i64 (setI wd ls p x)) ∧ TreeOwn base w' a (treeT wd (setL wd ls p x)) gl cl VV gs ∧ Tch (parts gl gs) w w'
theorem SetPost.err {base a gl cl : Nat} {VV : Value} {gs : List RowG} {wd : Int} {ls : List SLeaf} {p : Nat} {x : SLeaf} {w w' : World} {e : Int} (hI : setI wd ls p x = e) (h0 : e ≠ 0) (hT : TreeOwn base w a (treeT wd ls) gl cl VV gs) (hB : Below w.heap.size w w') : SetPost base a gl cl VV gs wd ls p x w (.returned (.int .i64 e)) w' :=
 ⟨by rw [hI], by unfold setL; rw [if_neg (by rw [hI]; exact h0)]; exact hT.keep hB, .of hB⟩
def waysL (wd : Int) (ls : List SLeaf) (p : Nat) (x : SLeaf) (n : Nat) : List SNode := (List.range n).map (wayV wd (ls.map (leafNodeI wd)) p (leafNodeI wd x))
theorem waysL_succ (wd : Int) (ls : List SLeaf) (p : Nat) (x : SLeaf) (n : Nat) : waysL wd ls p x (n + 1) = waysL wd ls p x n ++ [wayV wd (ls.map (leafNodeI wd)) p (leafNodeI wd x) n] := by
 unfold waysL; rw [List.range_succ, List.map_append]; rfl
structure StL (base a gl cl : Nat) (VV : Value) (gs : List RowG) (wd : Int) (ls : List SLeaf) (p : Nat) (x : SLeaf) (w : World) (i : Nat) (way : Value) (V : World) : Prop where
 b : Below w.heap.size w V
 t : TreeOwn base V a (treeT wd ls) gl cl VV gs
 o : V.ownsRow (w.heap.size + 1) 46 3 way (i + 1) (cellsN (waysL wd ls p x (i + 1)))
 k : ∀ j, j ≤ i → NodeK wd (wayV wd (ls.map (leafNodeI wd)) p (leafNodeI wd x) j)
 l : V.heap[w.heap.size]? = some (.cells (acL x) 36 (0, 0))
theorem StL.below {base a gl cl : Nat} {VV : Value} {gs : List RowG} {wd : Int} {ls : List SLeaf} {p : Nat} {x : SLeaf} {w : World} {i : Nat} {way : Value} {V V' : World} (h : StL base a gl cl VV gs wd ls p x w i way V) (hb : Below V.heap.size V V') : StL base a gl cl VV gs wd ls p x w i way V' :=
 ⟨h.b.trans (hb.mono h.b.size), h.t.keep hb, ownB h.o hb, h.k, blk_below h.l hb⟩
structure St12 (V W : World) (wn sn : SNode) (l : Nat → Bool) (γ δ : Nat) : Prop where
 b : Below V.heap.size V W
 h12 : l 12 = true → V.heap.size ≤ γ ∧ W.heap[γ]? = some (.cells (if l 14 = true then nodeA wn else nodeA nodeZ) 46 (0, 0))
 h13 : l 13 = true → V.heap.size ≤ δ ∧ W.heap[δ]? = some (.cells (if l 15 = true then nodeA sn else nodeA nodeZ) 46 (0, 0))
 ne : l 12 = true → l 13 = true → γ ≠ δ
 o14 : l 14 = true → l 12 = true
 o15 : l 15 = true → l 13 = true
section
variable {V W : World} {wn sn : SNode} {l : Nat → Bool} {γ δ : Nat}
theorem St12.start (V : World) (wn sn : SNode) : St12 V V.drew wn sn (fun _ => false) 0 0 := ⟨below_drew (Below.refl _ _), (fun h => by cases h), (fun h => by cases h), (fun h => by cases h), (fun h => by cases h), (fun h => by cases h)⟩
theorem St12.same (h : St12 V W wn sn l γ δ) (i : Nat) (hi : i < 12) : St12 V W wn sn (upd l i) γ δ := by
 have e12 : upd l i 12 = l 12 := upd_no (by omega)
 have e13 : upd l i 13 = l 13 := upd_no (by omega)
 have e14 : upd l i 14 = l 14 := upd_no (by omega)
 have e15 : upd l i 15 = l 15 := upd_no (by omega)
 exact ⟨h.b, by rw [e12, e14]; exact h.h12, by rw [e13, e15]; exact h.h13, by rw [e12, e13]; exact h.ne, by rw [e14, e12]; exact h.o14, by rw [e15, e13]; exact h.o15⟩
theorem St12.no13 (h : St12 V W wn sn l γ δ) (hl : l 13 = false) : l 15 = false := by
 cases hx : l 15 with
 | false => rfl
 | true => rw [h.o15 hx] at hl; cases hl
theorem St12.done (h : St12 V W wn sn l γ δ) (h12 : l 12 = true) (h13 : l 13 = true) (h14 : l 14 = true) (h15 : l 15 = true) : (V.heap.size ≤ γ ∧ W.heap[γ]? = some (.cells (nodeA wn) 46 (0, 0))) ∧ (V.heap.size ≤ δ ∧ W.heap[δ]? = some (.cells (nodeA sn) 46 (0, 0))) ∧ γ ≠ δ := by
 have a := h.h12 h12
 have b := h.h13 h13
 rw [if_pos h14] at a
 rw [if_pos h15] at b
 exact ⟨a, b, h.ne h12 h13⟩
end
theorem StL.next {base a gl cl : Nat} {VV : Value} {gs : List RowG} {wd : Int} {ls : List SLeaf} {p : Nat} {x : SLeaf} {w : World} {i : Nat} {way v' : Value} {V V' : World} {jn : SNode} (h : StL base a gl cl VV gs wd ls p x w i way V) (hT : TreeOwn base w a (treeT wd ls) gl cl VV gs) (hgr : V.grownBy V' way.ownBlock)
  (hown : V'.ownsRow (w.heap.size + 1) 46 3 v' (i + 1 + 1) (cellsN (waysL wd ls p x (i + 1)) ++ [.string jn.f0, .int .u64 jn.f1.f0, .int .u64 jn.f1.f1])) (hj : jn = wayV wd (ls.map (leafNodeI wd)) p (leafNodeI wd x) (i + 1)) (hk : NodeK wd jn) : StL base a gl cl VV gs wd ls p x w (i + 1) v' V' := by
 have hb := below_grown h.b hgr (fun r e => by have := (h.o.lt r e).1; omega)
 refine ⟨hb, hT.keep hb, ?_, fun j hj2 => ?_, (hgr.block _ (blk_lt h.l) (fun e => by have := (h.o.lt _ e.symm).1; omega)).trans h.l⟩
 ·
  rw [waysL_succ, cellsN_append, ← hj]; exact hown
 ·
  rcases Nat.lt_or_ge i j with h1 | h1
  ·
   obtain rfl : j = i + 1 := by omega
   rw [← hj]; exact hk
  ·
   exact h.k j h1
theorem ownBlk {w : World} {base g n cap size : Nat} {e : TypeId} {xs : List Value} (h : w.ownsRow base e size (.slice (some ⟨g, 0, none⟩) n cap) n xs) : ∃ cs, w.heap[g]? = some (.cells cs e (0, 0)) ∧ n * size ≤ cs.size := by
 rcases h.2 with ⟨h1, _⟩ | ⟨g', cap', cur, h1, _, h2, h3, _, h5, _⟩
 ·
  cases h1
 ·
  cases h1
  exact ⟨cur, h2, by rw [h5]; exact Nat.mul_le_mul_right _ h3⟩
theorem StL.zero {base a gl cl K : Nat} {VV : Value} {gs : List RowG} {wd : Int} {ls : List SLeaf} {p : Nat} {x : SLeaf} {w : World} {way : Value} {V : World} (h : StL base a gl cl VV gs wd ls p x w K way V) (hT : TreeOwn base w a (treeT wd ls) gl cl VV gs) (hK : ls.length = 2 ^ K) (hk : NewOk wd ls) (hp : p < ls.length) (hx : OkL x) (hm : mayLeafI x = true) : setI wd ls p x = 0 := by
 have hl : (ls.map (leafNodeI wd)).length = 2 ^ K := by rw [List.length_map]; exact hK
 have h1 := upV_set wd hl (p := p) (by omega) (leafNodeI wd x) K (Nat.le_refl _)
 have h2 := upV_tot wd (K := K) (l := (ls.map (leafNodeI wd)).set p (leafNodeI wd x)) (by rw [List.length_set]; exact hl) K (Nat.le_refl _)
 have h3 : (upV wd K (ls.map (leafNodeI wd))).length = 1 := by rw [upV_len2 hl K (Nat.le_refl _), Nat.sub_self]
 rw [Nat.div_eq_of_lt (by omega)] at h1
 have h4 := valU_lt (h.k K (Nat.le_refl _)).u
 rw [h1] at h2
 match e : upV wd K (ls.map (leafNodeI wd)), h3 with
 | [y], _ =>
  rw [e, List.set_cons_zero] at h2
  unfold setI
  rw [if_neg (show ¬ ls.length ≤ p by omega), if_neg (by rw [hm]; decide), List.map_set, ← h2, totL, totL, if_pos (by omega)]
def rowsM (wd : Int) (ls : List SLeaf) (p : Nat) (x : SLeaf) (j : Nat) : List (List SNode) := (treeT wd (ls.set p x)).rows.take j ++ (treeT wd ls).rows.drop j
structure StP (base a gl cl : Nat) (VV : Value) (gs : List RowG) (wd : Int) (ls : List SLeaf) (p : Nat) (x : SLeaf) (w : World) (K : Nat) (way : Value) (j : Nat) (V : World) : Prop where
 c : Tch (parts gl gs) w V
 t : TreeOwn base V a ⟨wd, ls.set p x, rowsM wd ls p x j⟩ gl cl VV gs
 o : V.ownsRow (w.heap.size + 1) 46 3 way (K + 1) (cellsN (waysL wd ls p x (K + 1)))
section
variable {base a gl cl : Nat} {VV : Value} {gs : List RowG} {wd : Int} {ls : List SLeaf} {p : Nat} {x : SLeaf} {w : World} {K : Nat} {way : Value} {j : Nat} {V V' : World}
theorem StP.below (h : StP base a gl cl VV gs wd ls p x w K way j V) (hb : Below V.heap.size V V') : StP base a gl cl VV gs wd ls p x w K way j V' := ⟨h.c.below hb, h.t.keep hb, ownB h.o hb⟩
theorem StP.start (h : StL base a gl cl VV gs wd ls p x w K way V) (hT : TreeOwn base w a (treeT wd ls) gl cl VV gs) (hp : p < ls.length) :
  StP base a gl cl VV gs wd ls p x w K way 0 (((((V.setCell ⟨gl, p * 5, none⟩ (.bool x.f0)).setCell ⟨gl, p * 5 + 1, none⟩ (.string x.f1)).setCell ⟨gl, p * 5 + 2, none⟩ (.string x.f2)).setCell ⟨gl, p * 5 + 3, none⟩ (.int .u64 x.f3.f0)).setCell ⟨gl, p * 5 + 4, none⟩ (.int .u64 x.f3.f1)).drew := by
 have hm : gl ∈ parts gl gs := List.mem_cons_self ..
 have hg := (hT.lt gl hm).2
 have hk : ∀ k, way.ownBlock = some k → k ≠ gl := fun k e => by have := (h.o.lt k e).1; omega
 refine StP.below ⟨(((((Tch.of h.b).set _ (.inl hm)).set _ (.inl hm)).set _ (.inl hm)).set _ (.inl hm)).set _ (.inl hm), h.t.putLeaf x hp, ?_⟩ (below_drew (Below.refl _ _))
 exact ownAny_keep h.o (fun g e => (Below.heap_setCell _ _ _ _ (hk g e)).trans ((Below.heap_setCell _ _ _ _ (hk g e)).trans ((Below.heap_setCell _ _ _ _ (hk g e)).trans ((Below.heap_setCell _ _ _ _ (hk g e)).trans (Below.heap_setCell _ _ _ _ (hk g e))))))
theorem rowsM_set {r : List SNode} (hn : (treeT wd ls).rows.length = K + 1) (hn2 : (treeT wd (ls.set p x)).rows.length = K + 1) (hj : j < K + 1) (hr : (treeT wd (ls.set p x)).rows[j]? = some r) : (rowsM wd ls p x j).set j r = rowsM wd ls p x (j + 1) := by
 unfold rowsM
 have e : ((treeT wd (ls.set p x)).rows.take j).length = j := by rw [List.length_take]; omega
 have hd : (treeT wd ls).rows.drop j = (treeT wd ls).rows[j]'(by omega) :: (treeT wd ls).rows.drop (j + 1) := List.drop_eq_getElem_cons (by omega)
 rw [List.set_append_right _ _ (by omega), e, Nat.sub_self, hd, List.set_cons_zero]
 have ht : (treeT wd (ls.set p x)).rows.take (j + 1) = (treeT wd (ls.set p x)).rows.take j ++ [r] := by
  rw [List.take_add_one, hr]; rfl
 rw [ht, List.append_assoc]; rfl
theorem StP.put {pr : RowG} {q : Nat} {r : List SNode} {n : SNode} (h : StP base a gl cl VV gs wd ls p x w K way j V) (hT : TreeOwn base w a (treeT wd ls) gl cl VV gs) (hn : (treeT wd ls).rows.length = K + 1) (hn2 : (treeT wd (ls.set p x)).rows.length = K + 1) (hj : j < K + 1) (hp : gs[j]? = some pr) (hr : (rowsM wd ls p x j)[j]? = some r) (hq : q < r.length) (hs : (treeT wd (ls.set p x)).rows[j]? = some (r.set q n)) :
  StP base a gl cl VV gs wd ls p x w K way (j + 1) (((V.setCell ⟨pr.1, q * 3, none⟩ (.string n.f0)).setCell ⟨pr.1, q * 3 + 1, none⟩ (.int .u64 n.f1.f0)).setCell ⟨pr.1, q * 3 + 2, none⟩ (.int .u64 n.f1.f1)) := by
 have hm : pr.1 ∈ parts gl gs := List.mem_cons_of_mem _ (List.mem_map.2 ⟨pr, List.mem_of_getElem? hp, rfl⟩)
 have hg := (hT.lt pr.1 hm).2
 have hk : ∀ k, way.ownBlock = some k → k ≠ pr.1 := fun k e => by have := (h.o.lt k e).1; omega
 have ht := h.t.putNode n hp hr hq
 rw [rowsM_set hn hn2 hj hs] at ht
 refine ⟨((h.c.set _ (.inl hm)).set _ (.inl hm)).set _ (.inl hm), ht, ?_⟩
 exact ownAny_keep h.o (fun g e => (Below.heap_setCell _ _ _ _ (hk g e)).trans ((Below.heap_setCell _ _ _ _ (hk g e)).trans (Below.heap_setCell _ _ _ _ (hk g e))))
theorem StP.done (h : StP base a gl cl VV gs wd ls p x w K way (K + 1) V) (hn : (treeT wd ls).rows.length = K + 1) (hn2 : (treeT wd (ls.set p x)).rows.length = K + 1) (hz : setI wd ls p x = 0) : SetPost base a gl cl VV gs wd ls p x w (.returned (.int .i64 0)) V := by
 refine ⟨by rw [hz], ?_, h.c⟩
 have e : setL wd ls p x = ls.set p x := by unfold setL; rw [if_pos hz]
 have e2 : rowsM wd ls p x (K + 1) = (treeT wd (ls.set p x)).rows := by
  unfold rowsM; rw [List.take_of_length_le (by omega), List.drop_of_length_le (by omega), List.append_nil]
 have ht := h.t
 rw [e2] at ht
 rw [e]
 exact ht
end
end Go.Proofs.YtfcodmdckcihmaaDoor.P
namespace Go.Proofs.YtfcodmdckcihmaaDoor.P
open Go.RowKit Go.Proofs.YtfcodmdckcihmaaDoorW.PrintWords Go.Proofs.YtfcodmdckcihmaaDoorW.PrintLast Go.Proofs.YtfcodmdckcihmaaDoorW.PrintMore
set_option linter.unusedVariables false
set_option linter.unusedSimpArgs false
set_option linter.unnecessarySimpa false
theorem litL_C {W : World} {g : Nat} {cur : Array Value} {xs : List SLeaf} (hg : W.heap[g]? = some (.cells cur 36 (0, 0))) (hc : cur.toList = cellsL xs) (hl : xs.length ≤ 1000) : Kd.C kLeaf W (some ⟨g, 0, none⟩) xs.length xs := by
 have hs : cur.size = xs.length * 5 := by rw [← cellsL_len, ← hc]; simp
 exact (ownLeaves_C (base := 0) (cap := xs.length) ⟨cellsL_len xs, .inr ⟨g, xs.length, cur, rfl, Nat.zero_le _, hg, Nat.le_refl _, by unfold maxLen; omega, hs, by rw [← hc, List.take_of_length_le (by simp; omega)]⟩⟩).2.2
end Go.Proofs.YtfcodmdckcihmaaDoor.P
namespace Go.Proofs.YtfcodmdckcihmaaDoor.P
open Go.RowKit Go.Proofs.YtfcodmdckcihmaaDoorW.PrintWords Go.Proofs.YtfcodmdckcihmaaDoorW.PrintLast Go.Proofs.YtfcodmdckcihmaaDoorW.PrintMore
set_option linter.unusedVariables false
set_option linter.unusedSimpArgs false
set_option linter.unnecessarySimpa false
theorem rows_len (wd : Int) (k : List SLeaf) : (treeT wd k).rows.length = k.length.log2 + 1 := by
 have h : (treeT wd k).rows = levelsV wd k.length.log2 (k.map (leafNodeI wd)) := rfl
 rw [h, levelsV_len]
section
variable {b a gl cl : Nat} {VV : Value} {gs : List RowG} {wd : Int} {k : List SLeaf} {V : World}
theorem TreeOwn.rootC {m : Nat} {rt : SNode} (h : TreeOwn b V a (treeT wd k) gl cl VV gs) (hn : NewOk wd k) (hl : k.length ≤ 1024) (hm : m = k.length.log2) (hr : rt = topI (treeT wd k)) :
  Calls Tryd.prog 21 #[ptrT a] V fun e w' => e = .returned (.agg #[.string rt.f0, .int .u64 rt.f1.f0, .int .u64 rt.f1.f1, .int .i64 (m : Int)]) ∧ Below V.heap.size V w' := by
 have q := tRoot.calls a _ V (h.readT hn hl)
 unfold rootV at q
 rw [rows_len, ← hm, ← hr, show ((m + 1 : Nat) : Int) - 1 = (m : Int) by omega] at q
 exact q
theorem TreeOwn.heightC {m : Nat} (h : TreeOwn b V a (treeT wd k) gl cl VV gs) (hn : NewOk wd k) (hl : k.length ≤ 1024) (hm : m = k.length.log2) :
  Calls Tryd.prog 19 #[ptrT a] V fun e w' => e = .returned (.int .i64 (m : Int)) ∧ V = w' := by
 have q := tHeight.calls a _ V (h.readT hn hl)
 rw [rows_len, ← hm, show ((m + 1 : Nat) : Int) - 1 = (m : Int) by omega] at q
 exact q
end
end Go.Proofs.YtfcodmdckcihmaaDoor.P
namespace Go.Proofs.YtfcodmdckcihmaaDoor.P
open Go.RowKit Go.Proofs.YtfcodmdckcihmaaDoorW.PrintWords Go.Proofs.YtfcodmdckcihmaaDoorW.PrintLast Go.Proofs.YtfcodmdckcihmaaDoorW.PrintMore
set_option linter.unusedVariables false
set_option linter.unusedSimpArgs false
set_option linter.unnecessarySimpa false
attribute [local go_sem] Oper.semAt_some sel_true
def besL (wd : Int) (ks : List SLeaf) (p k : Nat) : List SNode := (List.range k).map (besV wd (ks.map (leafNodeI wd)) p)
theorem besL_succ (wd : Int) (ks : List SLeaf) (p k : Nat) : besL wd ks p (k + 1) = besL wd ks p k ++ [besV wd (ks.map (leafNodeI wd)) p k] := by
 unfold besL; rw [List.range_succ, List.map_append]; rfl
theorem besL_len (wd : Int) (ks : List SLeaf) (p k : Nat) : (besL wd ks p k).length = k := by unfold besL; simp
theorem beside_is {wd : Int} {ks : List SLeaf} {m k p : Nat} (hn : NewOk wd ks) (hm : m = ks.length.log2) (hk : k < m) (hp : p < ks.length) : nodeAtI (treeT wd ks) (k : Int) ((besN (p / 2 ^ k) : Nat) : Int) = (besV wd (ks.map (leafNodeI wd)) p k, true) := by
 have hl : (ks.map (leafNodeI wd)).length = 2 ^ m := by rw [List.length_map, hm]; exact hn.p
 have h := (besV_k (w := wd) hl hn.k hn.t (p := p) (by rw [List.length_map] at hl; omega) k hk).2
 rw [nodeAt_tree wd _ k (by omega), Int.toNat_natCast]
 exact Prod.ext rfl (decide_eq_true h)
theorem grown_below {W W' : World} (h : Below W.heap.size W W') : W.grownBy W' none := ⟨h.os, h.tape, h.output, h.size, fun i hi _ => h.block i hi⟩
theorem KeepS.below {S : Nat → Prop} {W w w' : World} (h : KeepS S W w) (hlt : ∀ k, S k → k < W.heap.size) (hb : Below w.heap.size w w') : KeepS S W w' := fun k hk => by
 have h1 := h k hk
 have h2 : k < w.heap.size := by
  rw [Array.getElem?_eq_getElem (hlt k hk)] at h1
  exact (Array.getElem?_eq_some_iff.1 h1).1
 exact (hb.block k h2).trans h1
set_option maxRecDepth 100000 in
theorem beside.calls (a : Nat) (p : Int) (w : World) : Calls Tryd.prog 77 #[ptrT a, .int .u64 p] w fun e w' => e = .returned (.func (.func 106) #[] #[.pointer (some ⟨w.heap.size, 0, none⟩), .pointer (some ⟨w.heap.size + 1, 0, none⟩)]) ∧ w' = (w.alloc (.cells #[ptrT a] 25)).alloc (.cells #[.int .u64 p] 23) := by
 go_enter Tryd.func77, Tryd.ntmps77
 go_wp2
 go_ret
 exact ⟨rfl, rfl⟩
set_option maxRecDepth 100000 in
set_option maxHeartbeats 1000000 in
theorem beside1_in (n : Nat) (hn1 : 1 ≤ n) (l0 tb pb B ta m p : Nat) (wd : Int) (ks : List SLeaf) (hk : NewOk wd ks) (hm : m = ks.length.log2) (hm10 : m ≤ 10) (hp : p < ks.length) (hp64 : p < 18446744073709551616) (S : Nat → Prop) (hSt : S tb) (hSp : S pb)
  (J Jx : List SNode → World → Prop) (hJ : AbidesFrom B J) (W : World) (hTr : ∀ W', KeepS S W W' → TreeR ta (treeT wd ks) W')
  (hY : ∀ pre x W', J pre W' → pre.length < m → YieldAt Fence.wide (n - 1) Tryd.prog l0 #[nodeV x] W' fun e W2 => (e = .returned (.bool true) ∧ J (pre ++ [x]) W2 ∧ KeepS S W' W2) ∨ (e = .returned (.bool false) ∧ Jx (pre ++ [x]) W2))
  (ht : W.heap[tb]? = some (.cells #[ptrT ta] 25 (0, 0))) (hpb : W.heap[pb]? = some (.cells #[.int .u64 (p : Int)] 23 (0, 0))) (hlt : ∀ k, S k → k < W.heap.size) (h0 : J [] W) :
  CallsIn Fence.wide n Tryd.prog 106 #[.func (.yield l0) #[] #[], .pointer (some ⟨tb, 0, none⟩), .pointer (some ⟨pb, 0, none⟩)] W fun e W' => (∃ v, e = .returned v) ∧ ((∃ ys, ys = besL wd ks p m ∧ J ys W') ∨ (∃ pre, (∃ k, k ≤ m ∧ pre = besL wd ks p k) ∧ Jx pre W')) := by
 have ht0 : W.cell? ⟨tb, 0, none⟩ = some (ptrT ta) := blk_cell ht 0
 have HT := aM' ht
 have HP := aM' hpb
 have HL := aM' hlt
 have HJ := aM' hJ
 have HY := aM' hY
 have HTR := aM' hTr
 have HKK := aM' hk
 have HMM := aM' hm
 have HPL := aM' hp
 have CHT := aM' (show ∀ V, KeepS S W V → Calls Tryd.prog 19 #[ptrT ta] V fun e w' => e = .returned (.int .i64 (m : Int)) ∧ V = w' from fun V hV => by
  have q := tHeight.calls ta _ V (hTr V hV)
  rw [rows_len, ← hm, show ((m + 1 : Nat) : Int) - 1 = (m : Int) by omega] at q
  exact q)
 clear ht hpb hlt hJ hY hTr hk hm hp
 refine callsIn_of_wp Tryd.func106 rfl trivial ?_
 simp only [Tryd.ntmps106, List.size_toArray, List.length_cons, List.length_nil, Nat.reduceAdd, Nat.reduceSub, Array.replicate_succ, Array.replicate_zero, List.push_toArray, List.append_toArray, List.nil_append, List.cons_append]
 gi_wp2_with fail
 refine ⟨trivial, ?_⟩
 refine (callsIn_wide.2 (CHT.out W (fun _ _ => rfl))).mono ?_
 rintro e _ ⟨rfl, rfl⟩
 clear ht0
 gi_wp2
 gi_loopw [9] (fun i wr => ∃ k : Nat, i = .int .i64 (k : Int) ∧ Aside0 (k ≤ m) ∧ Aside0 (J (besL wd ks p k) wr) ∧ Aside0 (KeepS S W wr)) (fun i _ => m - (intOf i).toNat)
 case atStart => exact ⟨0, rfl, ⟨Nat.zero_le _⟩, ⟨h0⟩, ⟨fun _ _ => rfl⟩⟩
 case round =>
  obtain ⟨k, rfl, HK0, HJs, HK⟩ := hrel
  have hkm : k ≤ 10 := by have := HK0.out; omega
  by_cases hlt : k < m
  ·
   have b1 : decide ((k : Int) < (m : Int)) = true := decide_eq_true (by omega)
   have b2 : decide (k < m) = true := decide_eq_true hlt
   obtain ⟨q, hq⟩ : ∃ q, q = p / 2 ^ k := ⟨_, rfl⟩
   obtain ⟨s, hs⟩ : ∃ s, s = besN q := ⟨_, rfl⟩
   obtain ⟨x, hx⟩ : ∃ x, x = besV wd (ks.map (leafNodeI wd)) p k := ⟨_, rfl⟩
   have HSH := aM' (show (p : Int) / 2 ^ k = (q : Int) by rw [hq]; simp)
   have HXO := aM' (show Go.bits .xor .u64 (q : Int) 1 = (s : Int) by rw [hs]; exact bits_bes q (by rw [hq]; exact Nat.lt_of_le_of_lt (Nat.div_le_self _ _) hp64))
   have HX := aM' hx
   have CND := aM' (show ∀ V, Below wr.heap.size wr V → Calls Tryd.prog 24 #[ptrT ta, .int .i64 (k : Int), .int .u64 (s : Int)] V fun e w' => e = .returned (.tuple #[nodeV x, .bool true]) ∧ Below V.heap.size V w' from fun V hV => by
    have z := tNode.calls ta _ (k : Int) (s : Int) V (HTR.out V (HK.out.below HL.out hV)) (by omega)
    rw [hs, hq, beside_is HKK.out HMM.out hlt HPL.out, ← hx] at z
    rw [hs, hq]
    exact z)
   have HT1 := aM' ((HK.out tb hSt).trans HT.out)
   have HP1 := aM' ((HK.out pb hSp).trans HP.out)
   clear hq hs hx
   gi_upto_region 3 with (fail)
   refine region_invIn (fun l a W => ∃ γ : Nat, a = ({ tmps := #[.func (.yield l0) #[] #[], .pointer (some ⟨tb, 0, none⟩), .pointer (some ⟨pb, 0, none⟩), undef, .int .i64 (k : Int), sel (l 10) (.pointer (some ⟨γ, 0, none⟩)) (u5), sel (l 12) (.bool true) (u6), ptrT ta, .int .i64 (m : Int), .int .i64 (k : Int), .bool true, .int .i64 (k : Int), sel (l 7) (.tuple #[.agg #[.string x.f0, .int .u64 x.f1.f0, .int .u64 x.f1.f1], .bool true]) (u12), sel (l 0) (ptrT ta) (u13), sel (l 1) (.int .i64 (k : Int)) (u14), sel (l 2) (.int .u64 (p : Int)) (u15), sel (l 3) (.int .i64 (k : Int)) (u16), sel (l 4) (.int .u64 (q : Int)) (u17), sel (l 5) (.int .u64 (s : Int)) (u18), sel (l 6) (.tuple #[.agg #[.string x.f0, .int .u64 x.f1.f0, .int .u64 x.f1.f1], .bool true]) (u19), sel (l 8) (.agg #[.string x.f0, .int .u64 x.f1.f0, .int .u64 x.f1.f1]) (u20), sel (l 9) (.bool true) (u21), u22, u23, u24, u25, u26, u27, u28, u29, u30], defers := [] } : Act) ∧ (Below wr.heap.size wr W ∧ (l 10 = true → wr.heap.size ≤ γ ∧ W.heap[γ]? = some (.cells (if l 11 = true then nodeA x else nodeA nodeZ) 46 (0, 0))) ∧ (l 11 = true → l 10 = true))) 13 rfl rfl (by kernel_rfl) ?h0 ?hend ?hstep
   case h0 => exact ⟨0, rfl, below_drew (Below.refl _ _), (fun h => by cases h), (fun h => by cases h)⟩
   case hstep =>
    refine rg_cons (rg_cons (rg_cons (rg_cons (rg_cons (rg_cons (rg_cons (rg_cons (rg_cons (rg_cons (rg_cons (rg_cons (rg_cons (rg_nil) ?s0) ?s1) ?s2) ?s3) ?s4) ?s5) ?s6) ?s7) ?s8) ?s9) ?s10) ?s11) ?s12
    case s0 =>
     refine rgi_step rfl ?_
     rintro l a W ⟨γ, rfl, hI⟩ hl hd
     clear hd
     have x0 := blk_cell (blk_below HT1.out hI.1) 0
     simp at x0
     refine rgi_val (v := ptrT ta) (w' := W) (fun _ => trivial) rfl (fun _ h => by cases h) (by go_simp) ?_
     refine ⟨γ, ?_, ?_⟩
     ·
      simp only [Act.put, List.setIfInBounds_toArray, List.set_cons_zero, List.set_cons_succ]; rfl
     ·
      exact hI
    case s1 =>
     refine rgi_step rfl ?_
     rintro l a W ⟨γ, rfl, hI⟩ hl hd
     clear hd
     refine rgi_val (v := .int .i64 (k : Int)) (w' := W) (fun _ => trivial) rfl (fun _ h => by cases h) (by go_simp) ?_
     refine ⟨γ, ?_, ?_⟩
     ·
      simp only [Act.put, List.setIfInBounds_toArray, List.set_cons_zero, List.set_cons_succ]; rfl
     ·
      exact hI
    case s2 =>
     refine rgi_step rfl ?_
     rintro l a W ⟨γ, rfl, hI⟩ hl hd
     clear hd
     have x0 := blk_cell (blk_below HP1.out hI.1) 0
     simp at x0
     refine rgi_val (v := .int .u64 (p : Int)) (w' := W) (fun _ => trivial) rfl (fun _ h => by cases h) (by go_simp) ?_
     refine ⟨γ, ?_, ?_⟩
     ·
      simp only [Act.put, List.setIfInBounds_toArray, List.set_cons_zero, List.set_cons_succ]; rfl
     ·
      exact hI
    case s3 =>
     refine rgi_step rfl ?_
     rintro l a W ⟨γ, rfl, hI⟩ hl hd
     clear hd
     refine rgi_val (v := .int .i64 (k : Int)) (w' := W) (fun _ => trivial) rfl (fun _ h => by cases h) (by go_simp) ?_
     refine ⟨γ, ?_, ?_⟩
     ·
      simp only [Act.put, List.setIfInBounds_toArray, List.set_cons_zero, List.set_cons_succ]; rfl
     ·
      exact hI
    case s4 =>
     refine rgi_step rfl ?_
     rintro l a W ⟨γ, rfl, hI⟩ hl hd
     have d2 := hd 2 (by decide)
     have d3 := hd 3 (by decide)
     clear hd
     have hsh := HSH.out
     refine rgi_val (v := .int .u64 (q : Int)) (w' := W) (fun _ => trivial) rfl (fun _ h => by cases h) (by go_simp) ?_
     refine ⟨γ, ?_, ?_⟩
     ·
      simp only [Act.put, List.setIfInBounds_toArray, List.set_cons_zero, List.set_cons_succ]; rfl
     ·
      exact hI
    case s5 =>
     refine rgi_step rfl ?_
     rintro l a W ⟨γ, rfl, hI⟩ hl hd
     have d4 := hd 4 (by decide)
     clear hd
     have hxo := HXO.out
     refine rgi_val (v := .int .u64 (s : Int)) (w' := W) (fun _ => trivial) rfl (fun _ h => by cases h) (by go_simp) ?_
     refine ⟨γ, ?_, ?_⟩
     ·
      simp only [Act.put, List.setIfInBounds_toArray, List.set_cons_zero, List.set_cons_succ]; rfl
     ·
      exact hI
    case s6 =>
     refine rgi_step rfl ?_
     rintro l a W ⟨γ, rfl, hI⟩ hl hd
     have d0 := hd 0 (by decide)
     have d1 := hd 1 (by decide)
     have d5 := hd 5 (by decide)
     clear hd
     refine rgi_call (fun _ => trivial) rfl rfl (fun _ h => by cases h) (by go_simp; exact ⟨rfl, rfl⟩) ?_
     refine (callsIn_wide.2 (CND.out W hI.1)).mono ?_
     rintro ee W' ⟨rfl, hb⟩
     refine ⟨_, rfl, γ, ?_, ?_⟩
     ·
      simp only [Act.put, List.setIfInBounds_toArray, List.set_cons_zero, List.set_cons_succ]; rfl
     ·
      exact ⟨hI.1.trans (hb.mono hI.1.size), fun h => ⟨(hI.2.1 h).1, blk_below (hI.2.1 h).2 hb⟩, hI.2.2⟩
    case s7 =>
     refine rgi_step rfl ?_
     rintro l a W ⟨γ, rfl, hI⟩ hl hd
     have d6 := hd 6 (by decide)
     clear hd
     refine rgi_val (v := .tuple #[.agg #[.string x.f0, .int .u64 x.f1.f0, .int .u64 x.f1.f1], .bool true]) (w' := W) (fun _ => trivial) rfl (fun _ h => by cases h) (by go_simp) ?_
     refine ⟨γ, ?_, ?_⟩
     ·
      simp only [Act.put, List.setIfInBounds_toArray, List.set_cons_zero, List.set_cons_succ]; rfl
     ·
      exact hI
    case s8 =>
     refine rgi_step rfl ?_
     rintro l a W ⟨γ, rfl, hI⟩ hl hd
     have d7 := hd 7 (by decide)
     clear hd
     refine rgi_val (v := .agg #[.string x.f0, .int .u64 x.f1.f0, .int .u64 x.f1.f1]) (w' := W) (fun _ => trivial) rfl (fun _ h => by cases h) (by go_simp) ?_
     refine ⟨γ, ?_, ?_⟩
     ·
      simp only [Act.put, List.setIfInBounds_toArray, List.set_cons_zero, List.set_cons_succ]; rfl
     ·
      exact hI
    case s9 =>
     refine rgi_step rfl ?_
     rintro l a W ⟨γ, rfl, hI⟩ hl hd
     have d7 := hd 7 (by decide)
     clear hd
     refine rgi_val (v := .bool true) (w' := W) (fun _ => trivial) rfl (fun _ h => by cases h) (by go_simp) ?_
     refine ⟨γ, ?_, ?_⟩
     ·
      simp only [Act.put, List.setIfInBounds_toArray, List.set_cons_zero, List.set_cons_succ]; rfl
     ·
      exact hI
    case s10 =>
     refine rgi_step rfl ?_
     rintro l a W ⟨γ, rfl, hI⟩ hl hd
     clear hd
     have h11 : l 11 = false := by
      cases hx : l 11 with
      | false => rfl
      | true => have := hI.2.2 hx; rw [hl] at this; cases this
     refine rgi_val (v := .pointer (some ⟨W.heap.size, 0, none⟩)) (w' := W.alloc (.cells #[.string ⟨#[]⟩, .int .u64 0, .int .u64 0] 46)) (fun _ => trivial) rfl (fun _ h => by cases h) (by go_simp) ?_
     refine ⟨W.heap.size, ?_, ?_⟩
     ·
      simp only [Act.put, List.setIfInBounds_toArray, List.set_cons_zero, List.set_cons_succ]; rfl
     ·
      exact ⟨below_alloc hI.1 _, fun _ => ⟨hI.1.size, by rw [if_neg (show ¬ upd l 10 11 = true from by rw [show upd l 10 11 = l 11 from rfl, h11]; decide)]; exact blk_new W _⟩, fun _ => rfl⟩
    case s11 =>
     refine rgi_step rfl ?_
     rintro l a W ⟨γ, rfl, hI⟩ hl hd
     have d8 := hd 8 (by decide)
     have d10 := hd 10 (by decide)
     clear hd
     have hz := hI.2.1 d10
     rw [if_neg (by rw [hl]; decide)] at hz
     have z0 := blk_cell hz.2 0
     have z1 := blk_cell hz.2 1
     have z2 := blk_cell hz.2 2
     have zf := fun i => blk_frozen hz.2 i
     simp at z0 z1 z2
     refine rgi_skip (fun _ => trivial) rfl (fun _ h => by cases h) (by go_simp; rfl) ?_
     refine ⟨γ, ?_, ?_⟩
     ·
      simp only [Act.put, List.setIfInBounds_toArray, List.set_cons_zero, List.set_cons_succ]; rfl
     ·
      exact ⟨below_set (below_set (below_set hI.1 hz.1) hz.1) hz.1, fun _ => ⟨hz.1, by rw [if_pos (show upd l 11 11 = true from rfl)]; exact blk_put (blk_put (blk_put hz.2 0 _ rfl) 1 _ rfl) 2 _ rfl⟩, fun _ => d10⟩
    case s12 =>
     refine rgi_step rfl ?_
     rintro l a W ⟨γ, rfl, hI⟩ hl hd
     have d9 := hd 9 (by decide)
     clear hd
     refine rgi_val (v := .bool true) (w' := W) (fun _ => trivial) rfl (fun _ h => by cases h) (by go_simp) ?_
     refine ⟨γ, ?_, ?_⟩
     ·
      simp only [Act.put, List.setIfInBounds_toArray, List.set_cons_zero, List.set_cons_succ]; rfl
     ·
      exact hI
   case hend =>
    rintro l a W ⟨γ, rfl, hI⟩ hall
    have e0 := hall 0 (by decide)
    have e1 := hall 1 (by decide)
    have e2 := hall 2 (by decide)
    have e3 := hall 3 (by decide)
    have e4 := hall 4 (by decide)
    have e5 := hall 5 (by decide)
    have e6 := hall 6 (by decide)
    have e7 := hall 7 (by decide)
    have e8 := hall 8 (by decide)
    have e9 := hall 9 (by decide)
    have e10 := hall 10 (by decide)
    have e11 := hall 11 (by decide)
    have e12 := hall 12 (by decide)
    clear hall
    have hn := hI.2.1 e10
    rw [if_pos e11] at hn
    have hB := hI.1
    simp only [e0, e1, e2, e3, e4, e5, e6, e7, e8, e9, e10, e11, e12, sel_true]
    clear e0 e1 e2 e3 e4 e5 e6 e7 e8 e9 e10 e11 e12
    have hKW := HK.out.below HL.out hB
    have HKW := aM' hKW
    have y0 := blk_cell hn.2 0
    have y1 := blk_cell hn.2 1
    have y2 := blk_cell hn.2 2
    simp at y0 y1 y2
    obtain ⟨fn, tmps, assign, body, hy, hR⟩ := HY.out (besL wd ks p k) x W (HJ.out _ wr _ none HJs.out (grown_below hB) (fun r e => by cases e)) (by rw [besL_len]; exact hlt)
    have hy2 : (Instr.yield l0 #[.agg #[.string x.f0, .int .u64 x.f1.f0, .int .u64 x.f1.f1]]).run Tryd.prog W = .ok (.round l0 fn tmps assign body) W := hy
    have hR2 := hR.mono (fun e W' h => (show ∃ b : Bool, e = .returned (.bool b) ∧ Aside0 ((b = true ∧ J (besL wd ks p k ++ [x]) W' ∧ KeepS S W W') ∨ (b = false ∧ Jx (besL wd ks p k ++ [x]) W')) from
     h.elim (fun h => ⟨true, h.1, ⟨.inl ⟨rfl, h.2⟩⟩⟩) (fun h => ⟨false, h.1, ⟨.inr ⟨rfl, h.2⟩⟩⟩)))
    have HE2 := aM' (show besL wd ks p (k + 1) = besL wd ks p k ++ [x] by rw [besL_succ, HX.out])
    clear hy hR hI hn hB hKW
    gi_wp2_with fail
    refine hR2.mono ?_
    clear hR2 hy2 y0 y1 y2 b1 b2
    rintro e W3 ⟨b, rfl, HE⟩
    cases b with
    | true =>
     obtain ⟨-, hJ2, hK2⟩ | ⟨h, -⟩ := HE.out
     case inr => exact absurd h (by decide)
     have HJ2 := aM' hJ2
     have HK2 := aM' hK2
     clear hJ2 hK2
     gi_wp2
     exact ⟨⟨k + 1, by go_num, ⟨hlt⟩, ⟨by rw [HE2.out]; exact HJ2.out⟩, ⟨HKW.out.trans HK2.out⟩⟩, by simp [intOf]; omega⟩
    | false =>
     obtain ⟨h, -⟩ | ⟨-, hJ2⟩ := HE.out
     case inl => exact absurd h (by decide)
     have HJ2 := aM' hJ2
     clear hJ2
     gi_wp2
     refine bodyPost_ret (results_none rfl _ _ _) rfl ?_
     exact ⟨⟨_, rfl⟩, .inr ⟨_, ⟨k + 1, hlt, HE2.out.symm⟩, HJ2.out⟩⟩
  ·
   have b1 : decide ((k : Int) < (m : Int)) = false := decide_eq_false (by omega)
   have b2 : decide (k < m) = false := decide_eq_false hlt
   obtain rfl : k = m := by have := HK0.out; omega
   gi_wp2
   go_end0
   exact ⟨⟨_, rfl⟩, .inl ⟨_, rfl, HJs.out⟩⟩
end Go.Proofs.YtfcodmdckcihmaaDoor.P
namespace Go.Proofs.YtfcodmdckcihmaaDoor.P
open Go.RowKit Go.Proofs.YtfcodmdckcihmaaDoorW.PrintWords Go.Proofs.YtfcodmdckcihmaaDoorW.PrintLast Go.Proofs.YtfcodmdckcihmaaDoorW.PrintMore
set_option linter.unusedVariables false
set_option linter.unusedSimpArgs false
set_option linter.unnecessarySimpa false
attribute [local go_sem] Oper.semAt_some sel_true
abbrev entA (x : SLeaf) (p : Int) (s : Value) : Array Value := #[.bool x.f0, .string x.f1, .string x.f2, .int .u64 x.f3.f0, .int .u64 x.f3.f1, .int .u64 p, s]
abbrev entZ : Array Value := #[.bool false, .string ⟨#[]⟩, .string ⟨#[]⟩, .int .u64 0, .int .u64 0, .int .u64 0, .slice none 0 0]
structure OfS (w : World) (x : SLeaf) (p g8 H : Nat) (pre : List SNode) (W : World) : Prop where
 hB : Below w.heap.size w W
 h4 : W.heap[w.heap.size]? = some (.cells entZ 70 (0, 0))
 lo : w.heap.size < g8
 hi : g8 < H
 b : ∃ A c, W.heap[g8]? = some (.cells (entA x (p : Int) (.slice A pre.length c)) 70 (0, 0)) ∧ W.ownsRow H 46 3 (.slice A pre.length c) pre.length (cellsN pre)
section
variable {w : World} {x : SLeaf} {p g8 H : Nat} {pre : List SNode} {W W' : World}
theorem OfS.below (h : OfS w x p g8 H pre W) (hb : Below W.heap.size W W') : OfS w x p g8 H pre W' := by
 obtain ⟨A, c, h1, h2⟩ := h.b
 exact ⟨h.hB.trans (hb.mono h.hB.size), blk_below h.h4 hb, h.lo, h.hi, A, c, blk_below h1 hb, ownB h2 hb⟩
theorem OfS.grown {row : Option Nat} (h : OfS w x p g8 H pre W) (hg : W.grownBy W' row) (hr : ∀ r, row = some r → w.heap.size < r ∧ ∃ o, W.heap[r]? = some o ∧ o.isCells = false) : OfS w x p g8 H pre W' := by
 obtain ⟨A, c, h1, h2⟩ := h.b
 have hno : ∀ k cs t f, W.heap[k]? = some (Obj.cells cs t f) → some k ≠ row := fun k cs t f hk e => by
  obtain ⟨-, o, ho, hc⟩ := hr k e.symm
  rw [hk] at ho; cases ho; cases hc
 refine ⟨below_grown h.hB hg (fun r e => by have := (hr r e).1; omega), (hg.block _ (blk_lt h.h4) (hno _ _ _ _ h.h4)).trans h.h4, h.lo, h.hi, A, c, (hg.block _ (blk_lt h1) (hno _ _ _ _ h1)).trans h1, ownAny_keep h2 (fun g hg2 => ?_)⟩
 obtain ⟨cs, h3⟩ := own_cells h2 hg2
 exact hg.block g (blk_lt h3) (hno _ _ _ _ h3)
theorem OfS.more {y : SNode} {A : Option Addr} {c : Nat} {A' : Option Addr} {c' : Nat} (h : OfS w x p g8 H pre W) (hH : w.heap.size < H) (h1 : W.heap[g8]? = some (.cells (entA x (p : Int) (.slice A pre.length c)) 70 (0, 0))) (h2 : W.ownsRow H 46 3 (.slice A pre.length c) pre.length (cellsN pre))
  (hgr : W.grownBy W' (Value.slice A pre.length c).ownBlock) (hown : W'.ownsRow H 46 3 (.slice A' (pre.length + 1) c') (pre.length + 1) (cellsN pre ++ [.string y.f0, .int .u64 y.f1.f0, .int .u64 y.f1.f1])) :
  OfS w x p g8 H (pre ++ [y]) (W'.setCell ⟨g8, 6, none⟩ (.slice A' (pre.length + 1) c')) := by
 have hlo := h.lo
 have hhi := h.hi
 have hk : ∀ k, k < H → k < W.heap.size → W'.heap[k]? = W.heap[k]? := fun k hk hlt => hgr.block k hlt (fun e => by have := (h2.lt k e.symm).1; omega)
 have hl : (pre ++ [y]).length = pre.length + 1 := by simp
 refine ⟨(below_grown h.hB hgr (fun r e => by have := (h2.lt r e).1; omega)).setCell (by show w.heap.size ≤ g8; omega) _, (Below.heap_setCell _ _ _ _ (by show w.heap.size ≠ g8; omega)).trans ((hk _ (by omega) (blk_lt h.h4)).trans h.h4), hlo, hhi, A', c', ?_, ?_⟩
 ·
  rw [hl]
  exact blk_put ((hk g8 hhi (blk_lt h1)).trans h1) 6 _ rfl
 ·
  rw [hl, cellsN_append]
  exact ownAny_keep hown (fun g hg => Below.heap_setCell _ _ _ _ (by have := (hown.lt g hg).1; show g ≠ g8; omega))
end
theorem of_results (tmps : Array Value) (W : World) (g4 : Nat) (e : Value) (a0 a1 a2 a3 a4 a5 a6 : Value) (h4 : tmps.getD 4 undef = .pointer (some ⟨g4, 0, none⟩)) (h5 : tmps.getD 5 undef = e) (hg4 : W.heap[g4]? = some (.cells #[a0, a1, a2, a3, a4, a5, a6] 70 (0, 0))) :
  (results Tryd.f37 tmps).run Tryd.prog W = .ok (.tuple #[.agg #[a0, a1, a2, a3, a4, a5, a6], e]) W := by
 have h4' : tmps[4]?.getD undef = .pointer (some ⟨g4, 0, none⟩) := by simpa using h4
 have h5' : tmps[5]?.getD undef = e := by simpa using h5
 have hr : Tryd.f37.results = #[.cell 4 70, .tmp 5] := rfl
 have hu := Tryd.underlying70
 have c0 := blk_cell hg4 0
 have c1 := blk_cell hg4 1
 have c2 := blk_cell hg4 2
 have c3 := blk_cell hg4 3
 have c4 := blk_cell hg4 4
 have c5 := blk_cell hg4 5
 have c6 := blk_cell hg4 6
 simp at c0 c1 c2 c3 c4 c5 c6
 have h1 : (loadVar 70 ⟨g4, 0, none⟩).run Tryd.prog W = .ok (.agg #[a0, a1, a2, a3, a4, a5, a6]) W := by go_simp
 simp [results, hr, h4', h5', asAddr, h1]
set_option maxRecDepth 100000 in
set_option maxHeartbeats 4000000 in
theorem proofOf.calls (base ta gl cl : Nat) (VV : Value) (gs : List RowG) (wd : Int) (ls : List SLeaf) (p m : Nat) (w : World) (hT : TreeOwn base w ta (treeT wd ls) gl cl VV gs) (hk : NewOk wd ls) (hn : ls.length ≤ 1024) (hm : m = ls.length.log2) (hm10 : m ≤ 10) (hp : p < ls.length) :
  Calls Tryd.prog 37 #[ptrT ta, .int .u64 (p : Int)] w fun e w' => ∃ A c, e = .returned (.tuple #[.agg (entA ls[p] (p : Int) (.slice A m c)), .int .i64 0]) ∧ w'.ownsRow w.heap.size 46 3 (.slice A m c) m (cellsN (besL wd ls p m)) ∧ Below w.heap.size w w' := by
 have HT := aM' hT
 have HKK := aM' hk
 have HN := aM' hn
 have HMM := aM' hm
 have HPL := aM' hp
 obtain ⟨x, hx⟩ : ∃ x, x = ls[p] := ⟨_, rfl⟩
 rw [← hx]
 have hlf : leafAtI (treeT wd ls) (p : Int) = (x, true) := by
  unfold leafAtI
  rw [Int.toNat_natCast, hx]
  simp [treeT, List.getD_eq_getElem?_getD, hp]
 have HLF := aM' hlf
 obtain ⟨i0, hi, hz0, hz1, hz2⟩ := info_parts nodeInfo
 obtain ⟨W0, hW0⟩ : ∃ V, V = w.alloc (.cells entZ 70) := ⟨_, rfl⟩
 have HB0 := aM' (show Below w.heap.size w W0 by rw [hW0]; exact below_alloc (Below.refl _ _) _)
 have H4 := aM' (show W0.heap[w.heap.size]? = some (.cells entZ 70 (0, 0)) by rw [hW0]; exact blk_new _ _)
 have hw0 : (wd == 0) = false := by have := hk.w.1; simp; omega
 clear hT hk hn hm hp hx hlf
 refine (callsIn_wide (n := 3)).1 ?_
 refine callsIn_of_wp_marks Tryd.func37 rfl trivial ?_ rfl
 simp only [Tryd.ntmps37, List.size_toArray, List.length_cons, List.length_nil, Nat.reduceAdd, Nat.reduceSub, Array.replicate_succ, Array.replicate_zero, List.push_toArray, List.append_toArray, List.nil_append, List.cons_append]
 refine wpIn_wide.2 ?_
 go_wp2_with fail
 rw [← hW0]
 clear hW0
 refine (show Calls Tryd.prog 18 #[ptrT ta] W0 fun e w' => e = .returned (.int .i64 wd) ∧ W0 = w' from tWidth.calls ta _ W0 ((HT.out.keep HB0.out).readT HKK.out HN.out)).mono ?_
 rintro e _ ⟨rfl, rfl⟩
 have q := tLeaf.calls ta _ (p : Int) W0 ((HT.out.keep HB0.out).readT HKK.out HN.out) (by omega)
 rw [HLF.out] at q
 have Q := aM' q
 clear q
 go_wp2_with fail
 refine Q.out.mono ?_
 rintro e w1 ⟨rfl, hb⟩
 obtain ⟨g6, hg6⟩ : ∃ g, g = w1.heap.size := ⟨_, rfl⟩
 obtain ⟨W2, hW2⟩ : ∃ V, V = w1.alloc (.cells #[.bool x.f0, .string x.f1, .string x.f2, .int .u64 x.f3.f0, .int .u64 x.f3.f1] 36) := ⟨_, rfl⟩
 have hb2 : Below W0.heap.size W0 W2 := by rw [hW2]; exact below_alloc hb _
 have HB2 := aM' (HB0.out.trans (hb2.mono HB0.out.size))
 have H42 := aM' (blk_below H4.out hb2)
 have H6 := (show W2.heap[g6]? = some (.cells #[.bool x.f0, .string x.f1, .string x.f2, .int .u64 x.f3.f0, .int .u64 x.f3.f1] 36 (0, 0)) by rw [hW2, hg6]; exact blk_new _ _)
 have l0 := blk_cell H6 0
 have l1 := blk_cell H6 1
 have l2 := blk_cell H6 2
 have l3 := blk_cell H6 3
 have l4 := blk_cell H6 4
 simp at l0 l1 l2 l3 l4
 go_upto_region 4 with (fail)
 simp only [← hg6, ← hW2]
 clear hg6 hW2 hb hb2 H6 hw0
 go_upto_region 7 with (fail)
 obtain ⟨g8, hg8⟩ : ∃ g, g = W2.heap.size := ⟨_, rfl⟩
 obtain ⟨W3, hW3⟩ : ∃ V, V = W2.alloc (.cells (entA x (p : Int) (.slice none 0 0)) 70) := ⟨_, rfl⟩
 have hz3 : W3.heap.size = g8 + 1 := by rw [hW3, hg8]; simp
 have hO3 : OfS w x p g8 (g8 + 3) [] W3 := by
  have h1 := blk_lt H42.out
  refine ⟨by rw [hW3]; exact below_alloc HB2.out _, by rw [hW3]; exact blk_alloc H42.out _, by omega, by omega, none, 0, by rw [hW3, hg8]; exact blk_new _ _, World.ownsRow_nil _ _ _ _⟩
 rw [← hg8]
 simp only [← hW3]
 clear hW3 hg8 l0 l1 l2 l3 l4
 have HO3 := aM' hO3
 obtain ⟨tb, htb⟩ : ∃ t, t = W3.heap.size := ⟨_, rfl⟩
 have HTB := aM' (show tb = g8 + 1 by omega)
 clear hO3 hz3
 go_wp2_with fail
 refine (beside.calls ta (p : Int) W3).mono ?_
 rintro e w5 ⟨rfl, hw5⟩
 rw [← htb]
 have hT5 : w5.heap[tb]? = some (.cells #[ptrT ta] 25 (0, 0)) := by rw [hw5, htb]; exact blk_alloc (blk_new W3 _) _
 have hP5 : w5.heap[tb + 1]? = some (.cells #[.int .u64 (p : Int)] 23 (0, 0)) := by
  rw [hw5, htb]
  have := blk_new (W3.alloc (.cells #[ptrT ta] 25)) (.cells #[.int .u64 (p : Int)] 23)
  rwa [World.size_alloc] at this
 have hz5 : w5.heap.size = tb + 2 := by rw [hw5, htb]; simp
 have HO5 := aM' (show OfS w x p g8 (g8 + 3) [] w5 by rw [hw5]; exact HO3.out.below (below_alloc (below_alloc (Below.refl _ _) _) _))
 have HT5 := aM' hT5
 have HP5 := aM' hP5
 have HZ5 := aM' hz5
 clear hw5 htb hT5 hP5 hz5
 go_wp2_with fail
 refine wp_forget (fun z => ({ tmps := List.toArray (ptrT ta :: .int .u64 (p : Int) :: z 2 :: z 3 :: .pointer (some ⟨w.heap.size, 0, none⟩) :: .int .i64 0 :: z 6 :: z 7 :: .pointer (some ⟨g8, 0, none⟩) :: z 9 :: z 10 :: z 11 :: z 12 :: z 13 :: z 14 :: z 15 :: z 16 :: z 17 :: z 18 :: z 19 :: z 20 :: z 21 :: z 22 :: z 23 :: z 24 :: z 25 :: z 26 :: z 27 :: z 28 :: .func (.func 106) #[] #[.pointer (some ⟨tb, 0, none⟩), .pointer (some ⟨tb + 1, 0, none⟩)] :: z 30 :: z 31 :: z 32 :: z 33 :: z 34 :: z 35 :: z 36 :: z 37 :: z 38 :: z 39 :: []), defers := [] } : Act)) rfl ?_
 intro z
 refine (wpIn_wide (n := 3)).1 ?_
 have HSL := aM' (show ∀ k, (k < w.heap.size ∨ k = tb ∨ k = tb + 1) → k < w5.heap.size from fun k hk => by
  have h1 := HZ5.out
  have h3 := HO5.out.hB.size
  rcases hk with h | rfl | rfl <;> omega)
 refine wpIn_rangeFunc_ownH (α := SNode) (n := 3) rfl (by omega) (gf := 106) (lb := #[.pointer (some ⟨tb, 0, none⟩), .pointer (some ⟨tb + 1, 0, none⟩)]) rfl trivial (enters_of Tryd.func106 (by kernel_rfl) rfl) (encs := fun y => #[nodeV y]) (Kp := KeepS (fun k => k < w.heap.size ∨ k = tb ∨ k = tb + 1))
  (S := fun ys => ys = besL wd ls p m) (Sp := fun pre => True) (N := m) (w0 := w5) ?hseq (fun h k => KeepS.trans h k) ?hKb (Below.refl _ _) (fun _ => rfl)
  (fun pre V => OfS w x p g8 (g8 + 3) pre V ∧ w5.heap.size ≤ V.heap.size)
  (fun c2 pre V => False)
  ?hI ?hIx ⟨HO5.out, Nat.le_refl _⟩
  (fun y a' V => ∃ bx, w5.heap.size ≤ bx ∧ V.heap[bx]? = some (.cells (nodeA y) 46 (0, 0)) ∧ a' = ({ tmps := List.toArray (ptrT ta :: .int .u64 (p : Int) :: z 2 :: z 3 :: .pointer (some ⟨w.heap.size, 0, none⟩) :: .int .i64 0 :: z 6 :: z 7 :: .pointer (some ⟨g8, 0, none⟩) :: .pointer (some ⟨bx, 0, none⟩) :: z 10 :: z 11 :: z 12 :: z 13 :: z 14 :: z 15 :: z 16 :: z 17 :: z 18 :: z 19 :: z 20 :: z 21 :: z 22 :: z 23 :: z 24 :: z 25 :: z 26 :: z 27 :: z 28 :: .func (.func 106) #[] #[.pointer (some ⟨tb, 0, none⟩), .pointer (some ⟨tb + 1, 0, none⟩)] :: nodeV y :: z 31 :: z 32 :: z 33 :: z 34 :: z 35 :: z 36 :: z 37 :: z 38 :: z 39 :: []), defers := [] } : Act)) ?hAx ?assign ?body ?done ?stop
 case hKb =>
  intro W' l2 o o' hl2 ho hc hw k hk
  have h1 := HZ5.out
  have h2 := HO5.out.lo
  have h3 := HTB.out
  exact World.putObj_heap_other (by rcases hk with h | rfl | rfl <;> omega)
 case hI =>
  rintro s X Y row ⟨h1, h2⟩ hg hr
  exact ⟨h1.grown hg (fun r e => ⟨by have := (hr r e).1; have := HZ5.out; have := HO5.out.lo; have := HTB.out; omega, (hr r e).2⟩), Nat.le_trans h2 hg.size⟩
 case hIx =>
  rintro c2 s X Y row h hg hr
  exact h
 case hAx =>
  rintro y a' s X Y row ⟨bx, h1, h2, h3⟩ hg hr
  refine ⟨bx, h1, (hg.block bx (blk_lt h2) (fun e => ?_)).trans h2, h3⟩
  obtain ⟨-, o, ho, hc⟩ := hr bx e.symm
  rw [h2] at ho; cases ho; cases hc
 case hseq =>
  intro l2 J Jx W hW hJ hJx hY h0
  have hb5 := HO5.out.hB
  refine (beside1_in 2 (by omega) l2 tb (tb + 1) W.heap.size ta m p wd ls HKK.out HMM.out hm10 HPL.out (by have := HPL.out; have := HN.out; omega) (fun k => k < w.heap.size ∨ k = tb ∨ k = tb + 1) (.inr (.inl rfl)) (.inr (.inr rfl)) J Jx hJ W ?_ hY (blk_below HT5.out hW) (blk_below HP5.out hW) ?_ h0).mono ?_
  ·
   intro W' hk
   refine (HT.out.far (W' := W') (fun k _ hlt => (hk k (.inl hlt)).trans ?_)).readT HKK.out HN.out
   exact (hW.block k (lL' hlt hb5.size)).trans (hb5.block k hlt)
  ·
   intro k hk
   have h1 := HZ5.out
   have h2 := hW.size
   have h3 := hb5.size
   rcases hk with h | rfl | rfl <;> omega
  ·
   rintro e W2 ⟨hv, ⟨ys, h1, h2⟩ | ⟨pre, -, h1⟩⟩
   ·
    exact ⟨hv, .inl ⟨ys, h1, h2⟩⟩
   ·
    exact ⟨hv, .inr ⟨pre, trivial, h1⟩⟩
 case assign =>
  rintro l2 pre y W K ⟨hI, hz⟩ hK
  gi_wp2
  have hg := World.grownBy_alloc W (.cells (nodeA y) 46) none
  refine hK _ _ (KeepsFrom.of_grownBy hg (fun j e => by cases e)) (fun k hk => hg.block k (lL' (HSL.out k hk) hz) (by simp)) ⟨hI.below (below_alloc (Below.refl _ _) _), by simp; omega⟩ ⟨W.heap.size, hz, blk_new W _, rfl⟩
 case body =>
  rintro l2 pre y a' W hl2 - ⟨hI, hz⟩ ⟨bx, hbx, hb, rfl⟩ hlen
  obtain ⟨A, c, hbox, hown0⟩ := hI.b
  have HII := aM' hI
  have HBOX := aM' hbox
  have HOWN0 := aM' hown0
  have HZZ := aM' hz
  have HLEN := aM' hlen
  have y6 : W.cell? ⟨g8, 6, none⟩ = some (.slice A pre.length c) := blk_cell hbox 6
  have n0 : W.cell? ⟨bx, 0, none⟩ = some (.string y.f0) := blk_cell hb 0
  have n1 : W.cell? ⟨bx, 1, none⟩ = some (.int .u64 y.f1.f0) := blk_cell hb 1
  have n2 : W.cell? ⟨bx, 2, none⟩ = some (.int .u64 y.f1.f1) := blk_cell hb 2
  have hsz := HO5.out.lo
  have hz5 := HZ5.out
  have htb := HTB.out
  have HSZ := aM' (show w.heap.size < g8 ∧ g8 + 3 ≤ W.heap.size ∧ g8 < W.heap.size from ⟨hsz, by omega, by omega⟩)
  clear hI hbox hown0 hz hlen hb hbx hl2 hsz hz5 htb
  gi_upto_region 9 with (fail)
  refine wpIn_region_list ?_
  refine li_val (v := .pointer (some ⟨g8, 5, none⟩)) (w' := W) rfl (fun _ => trivial) (fun _ h => by cases h) (by go_simp; done) ?_
  refine li_val (v := .pointer (some ⟨g8, 6, none⟩)) (w' := W) rfl (fun _ => trivial) (fun _ h => by cases h) (by go_simp; done) ?_
  refine li_val (v := .slice A pre.length c) (w' := W) rfl (fun _ => trivial) (fun _ h => by cases h) (by go_simp; done) ?_
  refine li_val (v := .agg #[.string y.f0, .int .u64 y.f1.f0, .int .u64 y.f1.f1]) (w' := W) rfl (fun _ => trivial) (fun _ h => by cases h) (by go_simp; done) ?_
  refine li_val (v := .slice (some ⟨W.heap.size, 0, none⟩) 1 1) (w' := W.alloc (.cells #[.string y.f0, .int .u64 y.f1.f0, .int .u64 y.f1.f1] 46 (0, 0))) rfl (fun _ => trivial) (fun _ h => by cases h) (by go_simp; done) ?_
  refine wpListIn_append_own _ rfl _ _ 43 rfl (g8 + 3) 46 i0 (.agg #[(.string ⟨#[]⟩), (.int .u64 0), (.int .u64 0)]) 3 32 Tryd.underlying43 hi hz0 hz1 hz2 rfl (by decide) (.slice A pre.length c) pre.length (cellsN pre) rfl ?own ⟨W.heap.size, 0, none⟩ 1 1 [.string y.f0, .int .u64 y.f1.f0, .int .u64 y.f1.f1] rfl rfl ?cells ?one ?b1 ?b2 ?b3 ?_
  (case own => exact ownB HOWN0.out (below_alloc (Below.refl _ _) _))
  (case cells => exact World.news_of_block (blk_new W _))
  (case one => intro u hu; simp at hu; rcases hu with rfl | rfl | rfl <;> rfl)
  (case b1 => have h1 := HLEN.out; unfold maxLen; omega)
  (case b2 => have h1 := HLEN.out; omega)
  (case b3 => rw [World.size_alloc]; have := HSZ.out; omega)
  intro v' w7 hown hgr hnil
  obtain ⟨g, cap, rfl, -, hg7⟩ := hown.form (by omega)
  have hal := below_alloc (Below.refl W.heap.size W) (.cells #[.string y.f0, .int .u64 y.f1.f0, .int .u64 y.f1.f1] 46 (0, 0))
  have hmore := (HII.out.below hal).more (by have := HSZ.out; omega) (blk_below HBOX.out hal) (ownB HOWN0.out hal) hgr hown
  have HMORE := aM' hmore
  have hno : ∀ k, k < g8 + 3 → (Value.slice A pre.length c).ownBlock ≠ some k := fun k hk e => by have := (HOWN0.out.lt k e).1; omega
  have HGR := aM' hgr
  have HNO := aM' hno
  have hz6 := (hgr.block g8 (by rw [World.size_alloc]; have := HSZ.out; omega) (fun e => hno g8 (by omega) e.symm)).trans (blk_below HBOX.out hal)
  have z6 : w7.cell? ⟨g8, 6, none⟩ = some (.slice A pre.length c) := blk_cell hz6 6
  have zf : ∀ i, w7.frozen? ⟨g8, i, none⟩ = false := fun i => blk_frozen hz6 i
  have HAL := aM' hal
  clear hown hgr hz6 hnil hno hg7 hmore hal
  refine li_val (v := .pointer (some ⟨g8, 5, none⟩)) (w' := w7) rfl (fun _ => trivial) (fun _ h => by cases h) (by go_simp; done) ?_
  refine li_val (v := .pointer (some ⟨g8, 6, none⟩)) (w' := w7) rfl (fun _ => trivial) (fun _ h => by cases h) (by go_simp; done) ?_
  refine li_skip (w' := w7.setCell ⟨g8, 6, none⟩ (.slice (some ⟨g, 0, none⟩) (pre.length + 1) cap)) rfl (fun _ => trivial) (fun _ h => by cases h) (by go_simp; first | done | rfl) ?_
  gi_wp2
  have hend : ∀ k, k < W.heap.size → (Value.slice A pre.length c).ownBlock ≠ some k → k ≠ g8 → (w7.setCell ⟨g8, 6, none⟩ (.slice (some ⟨g, 0, none⟩) (pre.length + 1) cap)).heap[k]? = W.heap[k]? := fun k hk h1 h2 =>
   (Below.heap_setCell _ _ _ _ h2).trans ((HGR.out.block k (by rw [World.size_alloc]; omega) (fun e => h1 e.symm)).trans (HAL.out.block k hk))
  have hsz : W.heap.size ≤ w7.heap.size := by have h1 := HGR.out.size; rw [World.size_alloc] at h1; omega
  refine ⟨⟨by simpa using hsz, fun k o hk h0 ho => ?_⟩, ?_, ?_⟩
  ·
   rw [hend k (Array.getElem?_eq_some_iff.1 h0).1 (fun e => ?_) (fun e => ?_)]
   ·
    exact h0
   ·
    obtain ⟨cs, h3⟩ := own_cells HOWN0.out e
    rw [h0] at h3
    cases h3
    cases ho
   ·
    rw [e, HBOX.out] at h0
    cases h0
    cases ho
  ·
   intro k hk
   have h1 := HSL.out k hk
   have h2 := HO5.out.lo
   have h3 := HTB.out
   have h4 := HZZ.out
   have h5 := HZ5.out
   have hk8 : k ≠ g8 := by rcases hk with h | rfl | rfl <;> omega
   exact hend k (by omega) (HNO.out k (by rcases hk with h | rfl | rfl <;> omega)) hk8
  ·
   exact ⟨HMORE.out, by have := HZZ.out; simp; omega⟩
 case done =>
  rintro D ys W hD hys ⟨hI, hz⟩ hdf
  obtain ⟨A, c, hbox, hown⟩ := hI.b
  have hlen : ys.length = m := by rw [hys]; exact besL_len ..
  have y0 : W.cell? ⟨g8, 0, none⟩ = some (.bool x.f0) := blk_cell hbox 0
  have y1 : W.cell? ⟨g8, 1, none⟩ = some (.string x.f1) := blk_cell hbox 1
  have y2 : W.cell? ⟨g8, 2, none⟩ = some (.string x.f2) := blk_cell hbox 2
  have y3 : W.cell? ⟨g8, 3, none⟩ = some (.int .u64 x.f3.f0) := blk_cell hbox 3
  have y4 : W.cell? ⟨g8, 4, none⟩ = some (.int .u64 x.f3.f1) := blk_cell hbox 4
  have y5 : W.cell? ⟨g8, 5, none⟩ = some (.int .u64 (p : Int)) := blk_cell hbox 5
  have y6 : W.cell? ⟨g8, 6, none⟩ = some (.slice A ys.length c) := blk_cell hbox 6
  have z0 : W.cell? ⟨w.heap.size, 0, none⟩ = some (.bool false) := blk_cell hI.h4 0
  have z1 : W.cell? ⟨w.heap.size, 1, none⟩ = some (.string ⟨#[]⟩) := blk_cell hI.h4 1
  have z2 : W.cell? ⟨w.heap.size, 2, none⟩ = some (.string ⟨#[]⟩) := blk_cell hI.h4 2
  have z3 : W.cell? ⟨w.heap.size, 3, none⟩ = some (.int .u64 0) := blk_cell hI.h4 3
  have z4 : W.cell? ⟨w.heap.size, 4, none⟩ = some (.int .u64 0) := blk_cell hI.h4 4
  have z5 : W.cell? ⟨w.heap.size, 5, none⟩ = some (.int .u64 0) := blk_cell hI.h4 5
  have z6 : W.cell? ⟨w.heap.size, 6, none⟩ = some (.slice none 0 0) := blk_cell hI.h4 6
  have zf : ∀ i, W.frozen? ⟨w.heap.size, i, none⟩ = false := fun i => blk_frozen hI.h4 i
  obtain ⟨W9, hW9⟩ : ∃ V, V = (((((((W.setCell ⟨w.heap.size, 0, none⟩ (.bool x.f0)).setCell ⟨w.heap.size, 1, none⟩ (.string x.f1)).setCell ⟨w.heap.size, 2, none⟩ (.string x.f2)).setCell ⟨w.heap.size, 3, none⟩ (.int .u64 x.f3.f0)).setCell ⟨w.heap.size, 4, none⟩ (.int .u64 x.f3.f1)).setCell ⟨w.heap.size, 5, none⟩ (.int .u64 (p : Int))).setCell ⟨w.heap.size, 6, none⟩ (.slice A ys.length c)) := ⟨_, rfl⟩
  have hk9 : ∀ k, k ≠ w.heap.size → W9.heap[k]? = W.heap[k]? := fun k hk => by
   rw [hW9]; exact (Below.heap_setCell _ _ _ _ hk).trans ((Below.heap_setCell _ _ _ _ hk).trans ((Below.heap_setCell _ _ _ _ hk).trans ((Below.heap_setCell _ _ _ _ hk).trans ((Below.heap_setCell _ _ _ _ hk).trans ((Below.heap_setCell _ _ _ _ hk).trans (Below.heap_setCell _ _ _ _ hk))))))
  have H49 := aM' (show W9.heap[w.heap.size]? = some (.cells (entA x (p : Int) (.slice A ys.length c)) 70 (0, 0)) by rw [hW9]; exact blk_put (blk_put (blk_put (blk_put (blk_put (blk_put (blk_put hI.h4 0 _ rfl) 1 _ rfl) 2 _ rfl) 3 _ rfl) 4 _ rfl) 5 _ rfl) 6 _ rfl)
  have HB9 := aM' (show Below w.heap.size w W9 by rw [hW9]; exact below_set (below_set (below_set (below_set (below_set (below_set (below_set (hI.hB) (Nat.le_refl _)) (Nat.le_refl _)) (Nat.le_refl _)) (Nat.le_refl _)) (Nat.le_refl _)) (Nat.le_refl _)) (Nat.le_refl _))
  have hlo := hI.lo
  have hz5 := HZ5.out
  have htb := HTB.out
  have HD9 := aM' (show W9.heap[D]? = some (.deferred (some [])) from (hk9 D (by omega)).trans hdf)
  have HOW9 := aM' (ownAny_keep hown (fun g hg => hk9 g (by have := (hown.lt g hg).1; have := hI.hi; omega)))
  have HYS := aM' hys
  have HLE := aM' hlen
  have HDD := aM' (show w.heap.size < D ∧ w.heap.size < g8 from ⟨by omega, hlo⟩)
  clear hk9 hI hbox hown hlen hz hD hys hdf hlo hz5 htb
  dsimp only
  go_wp2
  rw [← hW9]
  refine retD (ds := [D]) (v := .tuple #[.agg (entA x (p : Int) (.slice A ys.length c)), .int .i64 0]) (List.nodup_cons.2 ⟨List.not_mem_nil, List.nodup_nil⟩) (fun D' hD' => by rw [List.mem_singleton.1 hD']; exact HD9.out) (fun W' hW' => ?_)
  have hno : ∀ (k : Nat) (cs : Array Value) (t : TypeId) (f : Nat × Nat), W9.heap[k]? = some (Obj.cells cs t f) → W'.heap[k]? = some (Obj.cells cs t f) := fun k cs t f hk => by
   rw [hW'.heap k (fun hm => ?_)]
   ·
    exact hk
   ·
    rw [List.mem_singleton.1 hm, HD9.out] at hk
    cases hk
  refine ⟨of_results _ _ _ _ _ _ _ _ _ _ _ rfl rfl (hno _ _ _ _ H49.out), A, c, by rw [HLE.out], ?_, hW'.below HB9.out (fun D' hD' => by rw [List.mem_singleton.1 hD']; have := HDD.out; omega)⟩
  have h1 := own_base (ownAny_keep (w' := W') HOW9.out (fun g hg => by
   obtain ⟨cs, h3⟩ := own_cells HOW9.out hg
   rw [hno _ _ _ _ h3, h3])) (show w.heap.size ≤ g8 + 3 by have := HDD.out; omega)
  rw [HLE.out, HYS.out] at h1
  exact h1
 case stop =>
  rintro D c2 pre W hD - h hdf
  exact h.elim
end Go.Proofs.YtfcodmdckcihmaaDoor.P
namespace Go.Proofs.YtfcodmdckcihmaaDoor.P
open Go.RowKit Go.Proofs.YtfcodmdckcihmaaDoorW.PrintWords Go.Proofs.YtfcodmdckcihmaaDoorW.PrintLast Go.Proofs.YtfcodmdckcihmaaDoorW.PrintMore
set_option linter.unusedVariables false
set_option linter.unusedSimpArgs false
set_option linter.unnecessarySimpa false
theorem pairsV_drop (w : Int) : ∀ (j : Nat) (l : List SNode), 2 * j ≤ l.length → pairsV w (l.drop (2 * j)) = (pairsV w l).drop j
 | 0, l, _ => rfl
 | j + 1, a :: b :: l, h => by
  rw [show 2 * (j + 1) = 2 * j + 1 + 1 by omega, List.drop_succ_cons, List.drop_succ_cons, pairsV, List.drop_succ_cons, pairsV_drop w j l (by simp at h; omega)]
theorem pairsV_take (w : Int) : ∀ (j : Nat) (l : List SNode), 2 * j ≤ l.length → pairsV w (l.take (2 * j)) = (pairsV w l).take j
 | 0, l, _ => rfl
 | j + 1, a :: b :: l, h => by
  rw [show 2 * (j + 1) = 2 * j + 1 + 1 by omega, List.take_succ_cons, List.take_succ_cons, pairsV, pairsV, List.take_succ_cons, pairsV_take w j l (by simp at h; omega)]
theorem upV_chunk (w : Int) : ∀ (n K q : Nat) (l : List SNode), l.length = 2 ^ K → n ≤ K → q < 2 ^ (K - n) → (upV w n l).getD q zeroN = treeV w n ((l.drop (q * 2 ^ n)).take (2 ^ n))
 | 0, K, q, l, hl, _, hq => by
  rw [upV, Nat.pow_zero, Nat.mul_one, treeV, List.getD_eq_getElem?_getD, List.headD_eq_head?_getD, List.head?_take, if_neg (by decide), List.head?_drop]
 | n + 1, 0, q, l, hl, h, _ => by omega
 | n + 1, K + 1, q, l, hl, h, hq => by
  have h2 : (2 : Nat) ^ (K + 1) = 2 * 2 ^ K := by rw [Nat.pow_succ, Nat.mul_comm]
  have h3 : (2 : Nat) ^ (n + 1) = 2 * 2 ^ n := by rw [Nat.pow_succ, Nat.mul_comm]
  rw [show K + 1 - (n + 1) = K - n by omega] at hq
  have h4 : (q + 1) * 2 ^ n ≤ 2 ^ K := by
   have := Nat.mul_le_mul_right (2 ^ n) (show q + 1 ≤ 2 ^ (K - n) from hq)
   rw [← Nat.pow_add, show K - n + n = K by omega] at this
   exact this
  have h5 : (q + 1) * 2 ^ n = q * 2 ^ n + 2 ^ n := by rw [Nat.add_mul, Nat.one_mul]
  have e : q * 2 ^ (n + 1) = 2 * (q * 2 ^ n) := by rw [h3, ← Nat.mul_assoc, Nat.mul_comm q 2, Nat.mul_assoc]
  rw [upV, upV_chunk w n K q _ (pairsV_len w (2 ^ K) l (hl.trans h2)) (by omega) hq, treeV_pairs w n _ ?_, e, h3, pairsV_take w _ _ ?_, pairsV_drop w _ _ ?_]
  ·
   omega
  ·
   rw [List.length_drop]; omega
  ·
   rw [List.length_take, List.length_drop]; omega
theorem upV_top (w : Int) (K : Nat) (l : List SNode) (hl : l.length = 2 ^ K) : (upV w K l).getD 0 zeroN = treeV w K l := by
 rw [upV_chunk w K K 0 l hl (Nat.le_refl _) (by rw [Nat.sub_self]; decide), Nat.zero_mul, List.drop_zero, List.take_of_length_le (by omega)]
end Go.Proofs.YtfcodmdckcihmaaDoor.P
namespace Go.Proofs.YtfcodmdckcihmaaDoor.P
open Go.RowKit Go.Proofs.YtfcodmdckcihmaaDoorW.PrintWords Go.Proofs.YtfcodmdckcihmaaDoorW.PrintLast Go.Proofs.YtfcodmdckcihmaaDoorW.PrintMore
set_option linter.unusedVariables false
set_option linter.unusedSimpArgs false
set_option linter.unnecessarySimpa false
theorem top_tree {wd : Int} {k : List SLeaf} (hn : NewOk wd k) : topI (treeT wd k) = treeV wd k.length.log2 (k.map (leafNodeI wd)) := by
 have hl : (k.map (leafNodeI wd)).length = 2 ^ k.length.log2 := by rw [List.length_map]; exact hn.p
 rw [levels_top, ← upV_top wd _ _ hl]
 have h1 := upV_len2 (w := wd) hl k.length.log2 (Nat.le_refl _)
 rw [Nat.sub_self] at h1
 match e : upV wd k.length.log2 (k.map (leafNodeI wd)), h1 with
 | [y], _ => rfl
end Go.Proofs.YtfcodmdckcihmaaDoor.P
namespace Go.Proofs.YtfcodmdckcihmaaDoor.P
open Go.RowKit Go.Proofs.YtfcodmdckcihmaaDoorW.PrintWords Go.Proofs.YtfcodmdckcihmaaDoorW.PrintLast Go.Proofs.YtfcodmdckcihmaaDoorW.PrintMore
set_option linter.unusedVariables false
set_option linter.unusedSimpArgs false
set_option linter.unnecessarySimpa false
theorem rdLeaf_nat (l : List SLeaf) (i : Nat) (h : i < l.length) : rd_TLeaf l (i : Int) = l[i] := by simp [rd_TLeaf, h]
theorem great15_loop (l : List SLeaf) (hl : l.length ≤ 9223372036854775807) : ∀ d i : Nat, i + d = l.length → Ev (fun k => paymasterlaw15_Great.l0 k l (i : Int)) ((l.drop i).any fun n => decide (200 < n.f1.size) || decide (200 < n.f2.size)) := by
 intro d
 induction d with
 | zero =>
  intro i hi
  refine Ev.step (f := fun _ => some false) (fun k => ?_) (ev_eq (Ev.now false) ?_)
  ·
   simp only [paymasterlaw15_Great.l0]; rw [if_neg (by omega)]
  ·
   rw [List.drop_of_length_le (by omega)]; rfl
 | succ d ih =>
  intro i hi
  have hlt : i < l.length := by omega
  rw [any_drop_succ _ l i hlt]
  by_cases hb : 200 < l[i].f1.size
  ·
   refine Ev.step (f := fun _ => some true) (fun k => ?_) (ev_eq (Ev.now true) (by simp [hb]))
   simp only [paymasterlaw15_Great.l0]; rw [if_pos (by omega), if_pos (by omega), rdLeaf_nat l i hlt, if_pos (by omega)]
  ·
   by_cases hc : 200 < l[i].f2.size
   ·
    refine Ev.step (f := fun _ => some true) (fun k => ?_) (ev_eq (Ev.now true) (by simp [hc]))
    simp only [paymasterlaw15_Great.l0]; rw [if_pos (by omega), if_pos (by omega), rdLeaf_nat l i hlt, if_neg (by omega), if_pos (by omega)]
   ·
    refine Ev.step (f := fun k => paymasterlaw15_Great.l0 k l ((i + 1 : Nat) : Int)) (fun k => ?_) (ev_eq (ih (i + 1) (by omega)) (by simp [hb, hc]))
    simp only [paymasterlaw15_Great.l0]; rw [if_pos (by omega), if_pos (by omega), rdLeaf_nat l i hlt, if_neg (by omega), if_neg (by omega), wrap64_id (by omega) (by omega)]; rfl
def greatL (l : List SLeaf) : Bool := decide (70 < l.length) || l.any fun n => decide (200 < n.f1.size) || decide (200 < n.f2.size)
theorem great15_ev (l : List SLeaf) (hl : l.length ≤ 9223372036854775807) : Ev (fun k => paymasterlaw15_Great.f k l) (greatL l) := by
 unfold paymasterlaw15_Great.f greatL
 by_cases h : 70 < l.length
 ·
  exact Ev.some_ (fun k => by rw [if_pos (by omega)]; simp [h])
 ·
  refine Ev.congr (fun k => by rw [if_neg (by omega)]; rfl) (ev_eq (great15_loop l hl l.length 0 (by omega)) (by simp [h]))
def shapeN (a0 a1 p : Int) (l : List SNode) : Int := if a1 < 0 ∨ a1 > 63 then 120 else if a0 < 1 ∨ a0 > 32 ∨ l.any (fun n => !nodeOf a0 n) = true then 70 else if (l.length : Int) ≠ a1 ∨ p / 2 ^ a1.toNat ≠ 0 then 160 else 0
theorem proofShape_eq (a0 a1 p : Int) (l : List SNode) : proof_Shape.f a0 a1 p l = some (shapeN a0 a1 p l) := rfl
end Go.Proofs.YtfcodmdckcihmaaDoor.P
namespace Go.Proofs.YtfcodmdckcihmaaDoor.P
open Go.RowKit Go.Proofs.YtfcodmdckcihmaaDoorW.PrintWords Go.Proofs.YtfcodmdckcihmaaDoorW.PrintLast Go.Proofs.YtfcodmdckcihmaaDoorW.PrintMore
set_option linter.unusedVariables false
set_option linter.unusedSimpArgs false
set_option linter.unnecessarySimpa false
theorem besV_side {wd : Int} {l : List SNode} {K p j : Nat} (hl : l.length = 2 ^ K) (hp : p < 2 ^ K) (hj : j < K) : besV wd l p j = sideV wd l p j := by
 have h1 := upV_len2 (w := wd) hl j (by omega)
 have h2 := div_lt hp (show j ≤ K by omega)
 have h3 : 2 ^ (K - j) = 2 * 2 ^ (K - (j + 1)) := by rw [show K - j = (K - (j + 1)) + 1 by omega, Nat.pow_succ, Nat.mul_comm]
 unfold besV sideV blkV
 refine upV_chunk wd j K _ l hl (by omega) ?_
 generalize p / 2 ^ j = q at h2
 have h4 : 0 < 2 ^ (K - (j + 1)) := Nat.two_pow_pos _
 split <;> omega
theorem besL_side {wd : Int} {ls : List SLeaf} {m p : Nat} (hn : NewOk wd ls) (hm : m = ls.length.log2) (hp : p < ls.length) : besL wd ls p m = (List.range m).map (sideV wd (ls.map (leafNodeI wd)) p) := by
 have hl : (ls.map (leafNodeI wd)).length = 2 ^ m := by rw [List.length_map, hm]; exact hn.p
 unfold besL
 refine List.map_congr_left fun j hj => ?_
 exact besV_side hl (by rw [List.length_map] at hl; omega) (List.mem_range.1 hj)
theorem besL_climb {wd : Int} {ls : List SLeaf} {m p : Nat} (hn : NewOk wd ls) (hm : m = ls.length.log2) (hp : p < ls.length) (h63 : m ≤ 63) : climbI wd (leafNodeI wd ls[p]) (p : Int) (besL wd ls p m) = ((topI (treeT wd ls)).f0, (topI (treeT wd ls)).f1.f0, (topI (treeT wd ls)).f1.f1, 0) := by
 have hl : (ls.map (leafNodeI wd)).length = 2 ^ m := by rw [List.length_map, hm]; exact hn.p
 have h := climb_place (w := wd) (p := p) hl (by rw [List.length_map] at hl; omega) hn.k hn.t h63 (besL_side hn hm hp)
 have e : (ls.map (leafNodeI wd)).getD p zeroN = leafNodeI wd ls[p] := by simp [List.getD_eq_getElem?_getD, hp]
 rw [e] at h
 rw [h, top_tree hn, ← hm]
theorem besL_k {wd : Int} {ls : List SLeaf} {m p : Nat} (hn : NewOk wd ls) (hm : m = ls.length.log2) (hp : p < ls.length) : ∀ x ∈ besL wd ls p m, NodeK wd x := by
 have hl : (ls.map (leafNodeI wd)).length = 2 ^ m := by rw [List.length_map, hm]; exact hn.p
 intro x hx
 unfold besL at hx
 obtain ⟨j, hj, rfl⟩ := List.mem_map.1 hx
 exact (besV_k (w := wd) hl hn.k hn.t (p := p) (by rw [List.length_map] at hl; omega) j (List.mem_range.1 hj)).1
theorem besL_any {wd : Int} {ls : List SLeaf} {m p : Nat} (hn : NewOk wd ls) (hm : m = ls.length.log2) (hp : p < ls.length) : (besL wd ls p m).any (fun n => !nodeOf wd n) = false := by
 rw [List.any_eq_false]
 intro x hx
 rw [(besL_k hn hm hp x hx).of]
 decide
theorem besL_shape {wd : Int} {ls : List SLeaf} {m p : Nat} (hn : NewOk wd ls) (hm : m = ls.length.log2) (hp : p < ls.length) (h63 : m ≤ 62) : shapeN wd (m : Int) (p : Int) (besL wd ls p m) = 0 ∧ shapeN wd ((m : Int) + 1) (p : Int) (besL wd ls p m) = 160 := by
 have hw := hn.w
 have ha := besL_any hn hm hp
 have hq : (p : Int) / 2 ^ m = 0 := by
  have h1 : p < 2 ^ m := by rw [hm]; have := hn.p; omega
  have h2 : p / 2 ^ m = 0 := Nat.div_eq_of_lt h1
  have h3 : ((p / 2 ^ m : Nat) : Int) = (p : Int) / 2 ^ m := by simp
  rw [← h3, h2]; rfl
 constructor
 ·
  unfold shapeN
  rw [if_neg (by omega), if_neg (by rw [ha]; simp; omega), if_neg (by rw [besL_len, Int.toNat_natCast, hq]; simp)]
 ·
  unfold shapeN
  rw [if_neg (by omega), if_neg (by rw [ha]; simp; omega), if_pos (by left; rw [besL_len]; omega)]
end Go.Proofs.YtfcodmdckcihmaaDoor.P
namespace Go.Proofs.YtfcodmdckcihmaaDoor.P
open Go.RowKit Go.Proofs.YtfcodmdckcihmaaDoorW.PrintWords Go.Proofs.YtfcodmdckcihmaaDoorW.PrintLast Go.Proofs.YtfcodmdckcihmaaDoorW.PrintMore
set_option linter.unusedVariables false
set_option linter.unusedSimpArgs false
set_option linter.unnecessarySimpa false
theorem nodeK_size {w : Int} {x y : SNode} (hx : NodeK w x) (hy : NodeK w y) : x.f0.size = y.f0.size := by
 have h1 := (nodeOf_w hx.of).2.2
 have h2 := (nodeOf_w hy.of).2.2
 omega
end Go.Proofs.YtfcodmdckcihmaaDoor.P
namespace Go.Proofs.YtfcodmdckcihmaaDoor.P
open Go.RowKit Go.Proofs.YtfcodmdckcihmaaDoorW.PrintWords Go.Proofs.YtfcodmdckcihmaaDoorW.PrintLast Go.Proofs.YtfcodmdckcihmaaDoorW.PrintMore
attribute [local go_sem] max2_int min2_int max_two min_two max_three min_three max_four min_four-- for this text's walks alone
set_option linter.unusedVariables false
set_option linter.unusedSimpArgs false
def verify_May.j0 : Nat → Bool → ByteArray → Int → Int → Int → Option (Int)
 | 0, _, _, _, _, _ => none
 | k + 1, x3, x102000, x102001, x102002, x102003 => if x3 = true then (some 120) else (if (x102000.size : Int) < 1 then (some 70) else (if (x102000.size : Int) > 32 then (some 70) else (some 0)))
def verify_May.f (k : Nat) (a0_0 : ByteArray) (a0_1 : Int) (a0_2 : Int) (a0_3 : Int) : Option (Int) := if a0_3 < 0 then (verify_May.j0 k true a0_0 a0_1 a0_2 a0_3) else (verify_May.j0 k (decide (a0_3 > 63)) a0_0 a0_1 a0_2 a0_3)
set_option maxHeartbeats 8000000 in
set_option maxRecDepth 100000 in
theorem verify_May.calls (k : Nat) (a0_0 : ByteArray) (a0_1 : Int) (a0_2 : Int) (a0_3 : Int) (r : Int) (w : World) (h : verify_May.f k a0_0 a0_1 a0_2 a0_3 = some r) :
  Calls Tryd.prog 109 #[.agg #[.string a0_0, .int .u64 a0_1, .int .u64 a0_2, .int .i64 a0_3]] w fun e w' => e = .returned (.int .i64 r) ∧ Below w.heap.size w w' := by
 have hu41 := Tryd.underlying41
 have HB := aM' (Below.refl w.heap.size w)
 have H : (if a0_3 < 0 then (verify_May.j0 k true a0_0 a0_1 a0_2 a0_3) else (verify_May.j0 k (decide (a0_3 > 63)) a0_0 a0_1 a0_2 a0_3)) = some r := h
 clear h
 have HC2 := aM' H
 clear H
 go_enter Tryd.func109, Tryd.ntmps109
 go_upto_region 1 with (first | ((with_reducible refine gate_dst (N := 1) rfl ?_); (try (refine gate_guard (by rfl) ?_; dsimp only)); refine box_event ?hg (N := 1) ?hd (cs := #[.string a0_0, .int .u64 a0_1, .int .u64 a0_2, .int .i64 a0_3]) (t := 41) ?hr ?_; (case hd => rfl); (case hg => rfl); (case hr => first | (go_simp; done) | (go_simp; rfl)); intro gb101 hg w3 hbox hb; have n0_ := aM' (below_step (by repeat (first | (with_reducible first | exact HB.out | apply below_alloc | apply pw_below_drewN | apply below_drew1) | exact HB.out)) hb); have n1_ := aM' (hbox); have n2_ := aM' ((by rw [hg]; exact (below_size (by repeat (first | (with_reducible first | exact HB.out | apply below_alloc | apply pw_below_drewN | apply below_drew1) | exact HB.out))) : w.heap.size ≤ gb101)); have n3_ := aM' ((by rw [hg]; exact (below_size (by repeat (first | (with_reducible first | exact HB.out | apply below_alloc | apply pw_below_drewN | apply below_drew1) | exact HB.out))) : w.heap.size ≤ gb101)); clear HB; have HB := n0_; have BK101 := n1_; have GW101 := n2_; have GE101 := n3_; clear n0_ n1_ n2_ n3_; clear hb hbox hg))
 (try simp only [Act.put, List.setIfInBounds_toArray, List.set_cons_zero, List.set_cons_succ])
 go_cut [3] (fun v3 wc => ∃ (kq : Nat) (x3_1 : Bool), v3 = .bool x3_1 ∧ Aside0 (verify_May.j0 kq x3_1 a0_0 a0_1 a0_2 a0_3 = some r) ∧ Aside0 (kq ≤ k) ∧ Aside0 (wc.heap[gb101]? = some (.cells #[.string a0_0, .int .u64 a0_1, .int .u64 a0_2, .int .i64 a0_3] 41 (0, 0))) ∧ Aside0 (Below w.heap.size w wc))
 case first =>
  have H := HC2.out
  clear HC2
  by_cases c4 : a0_3 < 0
  ·
   rw [if_pos c4] at H
   have c4b0 : decide (a0_3 < 0) = true := decide_eq_true c4
   clear c4
   (first | rw [c4b0] | (simp only [i64_w, i32_w]; rw [c4b0]) | skip)
   have H' := aM' H
   clear H
   have hcz5_0 : w3.cell? ⟨gb101, 0, none⟩ = some (.string a0_0) := (blk_cell BK101.out 0).trans rfl
   have hcz5_1 : w3.cell? ⟨gb101, 1, none⟩ = some (.int .u64 a0_1) := (blk_cell BK101.out 1).trans rfl
   have hcz5_2 : w3.cell? ⟨gb101, 2, none⟩ = some (.int .u64 a0_2) := (blk_cell BK101.out 2).trans rfl
   have hcz5_3 : w3.cell? ⟨gb101, 3, none⟩ = some (.int .i64 a0_3) := (blk_cell BK101.out 3).trans rfl
   have hfz5_0 := blk_frozen BK101.out 0
   have hfz5_1 := blk_frozen BK101.out 1
   have hfz5_2 := blk_frozen BK101.out 2
   have hfz5_3 := blk_frozen BK101.out 3
   go_wp2
   go_meet
   case rel => exact ⟨_, (true), (by first | rfl | (simp; done) | (simp [*]; done)), H', ⟨by first | omega | exact Nat.le_refl _⟩, ⟨by (with_reducible repeat (first | refine blk_drewN ?_ _ | refine blk_drew ?_ | refine blk_alloc ?_ _)); exact BK101.out⟩, ⟨by repeat (first | (with_reducible first | exact HB.out | apply below_alloc | apply pw_below_drewN | apply below_drew1 | refine below_set ?_ GE101.out) | exact HB.out)⟩⟩
  ·
   rw [if_neg c4] at H
   have c4b0 : decide (a0_3 < 0) = false := decide_eq_false c4
   clear c4
   (first | rw [c4b0] | (simp only [i64_w, i32_w]; rw [c4b0]) | skip)
   have H' := aM' H
   clear H
   have hcz6_0 : w3.cell? ⟨gb101, 0, none⟩ = some (.string a0_0) := (blk_cell BK101.out 0).trans rfl
   have hcz6_1 : w3.cell? ⟨gb101, 1, none⟩ = some (.int .u64 a0_1) := (blk_cell BK101.out 1).trans rfl
   have hcz6_2 : w3.cell? ⟨gb101, 2, none⟩ = some (.int .u64 a0_2) := (blk_cell BK101.out 2).trans rfl
   have hcz6_3 : w3.cell? ⟨gb101, 3, none⟩ = some (.int .i64 a0_3) := (blk_cell BK101.out 3).trans rfl
   have hfz6_0 := blk_frozen BK101.out 0
   have hfz6_1 := blk_frozen BK101.out 1
   have hfz6_2 := blk_frozen BK101.out 2
   have hfz6_3 := blk_frozen BK101.out 3
   go_wp2
   go_meet
   case rel => exact ⟨_, (decide (a0_3 > 63)), (by first | rfl | (simp; done) | (simp [*]; done)), H', ⟨by first | omega | exact Nat.le_refl _⟩, ⟨by (with_reducible repeat (first | refine blk_drewN ?_ _ | refine blk_drew ?_ | refine blk_alloc ?_ _)); exact BK101.out⟩, ⟨by repeat (first | (with_reducible first | exact HB.out | apply below_alloc | apply pw_below_drewN | apply below_drew1 | refine below_set ?_ GE101.out) | exact HB.out)⟩⟩
 case rest =>
  clear HC2
  try clear c1
  try clear p2
  try clear c4
  try clear c4b0
  try clear hcz5_0
  try clear hcz5_1
  try clear hcz5_2
  try clear hcz5_3
  try clear hcz6_0
  try clear hcz6_1
  try clear hcz6_2
  try clear hcz6_3
  try clear hfz5_0
  try clear hfz5_1
  try clear hfz5_2
  try clear hfz5_3
  try clear hfz6_0
  try clear hfz6_1
  try clear hfz6_2
  try clear hfz6_3
  obtain ⟨kq, x3_1, rfl, HA, HJ1, BK101, HB⟩ := hcut
  cases kq with
  | zero => exact absurd HA.out (by simp [verify_May.j0])
  | succ kj1 =>
   have H := HA.out
   clear HA
   simp only [verify_May.j0] at H
   by_cases c7 : x3_1 = true
   ·
    subst c7
    have H1 : (some 120) = some r := by rw [if_pos rfl] at H; exact H
    clear H
    have H := H1
    clear H1
    obtain rfl := Option.some.inj H
    go_wp2
    go_ret
    exact ⟨by first | rfl | (simp [errW_none, errW_some] <;> rfl) | (simp [*, errW_none, errW_some] <;> rfl), by repeat (first | (with_reducible first | exact HB.out | apply below_alloc | apply pw_below_drewN | apply below_drew1 | refine below_set ?_ GE101.out) | exact HB.out)⟩
   ·
    replace c7 := Bool.eq_false_iff.mpr c7
    subst c7
    have H1 : (if (a0_0.size : Int) < 1 then (some 70) else (if (a0_0.size : Int) > 32 then (some 70) else (some 0))) = some r := by rw [if_neg (show ¬ (false = true) by decide)] at H; exact H
    clear H
    have H := H1
    clear H1
    by_cases c8 : (a0_0.size : Int) < 1
    ·
     rw [if_pos c8] at H
     have c8b0 : decide ((a0_0.size : Int) < 1) = true := decide_eq_true c8
     have c8b1 : decide (a0_0.size < 1) = true := decide_eq_true (by omega)
     clear c8
     obtain rfl := Option.some.inj H
     have hcz9_0 : wc.cell? ⟨gb101, 0, none⟩ = some (.string a0_0) := (blk_cell BK101.out 0).trans rfl
     have hcz9_1 : wc.cell? ⟨gb101, 1, none⟩ = some (.int .u64 a0_1) := (blk_cell BK101.out 1).trans rfl
     have hcz9_2 : wc.cell? ⟨gb101, 2, none⟩ = some (.int .u64 a0_2) := (blk_cell BK101.out 2).trans rfl
     have hcz9_3 : wc.cell? ⟨gb101, 3, none⟩ = some (.int .i64 a0_3) := (blk_cell BK101.out 3).trans rfl
     have hfz9_0 := blk_frozen BK101.out 0
     have hfz9_1 := blk_frozen BK101.out 1
     have hfz9_2 := blk_frozen BK101.out 2
     have hfz9_3 := blk_frozen BK101.out 3
     go_wp2
     go_ret
     exact ⟨by first | rfl | (simp [errW_none, errW_some] <;> rfl) | (simp [*, errW_none, errW_some] <;> rfl), by repeat (first | (with_reducible first | exact HB.out | apply below_alloc | apply pw_below_drewN | apply below_drew1 | refine below_set ?_ GE101.out) | exact HB.out)⟩
    ·
     rw [if_neg c8] at H
     have c8b0 : decide ((a0_0.size : Int) < 1) = false := decide_eq_false c8
     have c8b1 : decide (a0_0.size < 1) = false := decide_eq_false (by omega)
     clear c8
     by_cases c10 : (a0_0.size : Int) > 32
     ·
      rw [if_pos c10] at H
      have c10b0 : decide (32 < (a0_0.size : Int)) = true := decide_eq_true c10
      have c10b1 : decide (32 < a0_0.size) = true := decide_eq_true (by omega)
      clear c10
      obtain rfl := Option.some.inj H
      have hcz11_0 : wc.cell? ⟨gb101, 0, none⟩ = some (.string a0_0) := (blk_cell BK101.out 0).trans rfl
      have hcz11_1 : wc.cell? ⟨gb101, 1, none⟩ = some (.int .u64 a0_1) := (blk_cell BK101.out 1).trans rfl
      have hcz11_2 : wc.cell? ⟨gb101, 2, none⟩ = some (.int .u64 a0_2) := (blk_cell BK101.out 2).trans rfl
      have hcz11_3 : wc.cell? ⟨gb101, 3, none⟩ = some (.int .i64 a0_3) := (blk_cell BK101.out 3).trans rfl
      have hfz11_0 := blk_frozen BK101.out 0
      have hfz11_1 := blk_frozen BK101.out 1
      have hfz11_2 := blk_frozen BK101.out 2
      have hfz11_3 := blk_frozen BK101.out 3
      go_wp2
      go_ret
      exact ⟨by first | rfl | (simp [errW_none, errW_some] <;> rfl) | (simp [*, errW_none, errW_some] <;> rfl), by repeat (first | (with_reducible first | exact HB.out | apply below_alloc | apply pw_below_drewN | apply below_drew1 | refine below_set ?_ GE101.out) | exact HB.out)⟩
     ·
      rw [if_neg c10] at H
      have c10b0 : decide (32 < (a0_0.size : Int)) = false := decide_eq_false c10
      have c10b1 : decide (32 < a0_0.size) = false := decide_eq_false (by omega)
      clear c10
      obtain rfl := Option.some.inj H
      have hcz12_0 : wc.cell? ⟨gb101, 0, none⟩ = some (.string a0_0) := (blk_cell BK101.out 0).trans rfl
      have hcz12_1 : wc.cell? ⟨gb101, 1, none⟩ = some (.int .u64 a0_1) := (blk_cell BK101.out 1).trans rfl
      have hcz12_2 : wc.cell? ⟨gb101, 2, none⟩ = some (.int .u64 a0_2) := (blk_cell BK101.out 2).trans rfl
      have hcz12_3 : wc.cell? ⟨gb101, 3, none⟩ = some (.int .i64 a0_3) := (blk_cell BK101.out 3).trans rfl
      have hfz12_0 := blk_frozen BK101.out 0
      have hfz12_1 := blk_frozen BK101.out 1
      have hfz12_2 := blk_frozen BK101.out 2
      have hfz12_3 := blk_frozen BK101.out 3
      go_wp2
      go_ret
      exact ⟨by first | rfl | (simp [errW_none, errW_some] <;> rfl) | (simp [*, errW_none, errW_some] <;> rfl), by repeat (first | (with_reducible first | exact HB.out | apply below_alloc | apply pw_below_drewN | apply below_drew1 | refine below_set ?_ GE101.out) | exact HB.out)⟩
def verify_asked_root.f (k : Nat) (a0_0 : ByteArray) (a0_1 : Int) (a0_2 : Int) (a0_3 : Int) (a0_4 : Bool) (a0_5 : ByteArray) (a0_6 : ByteArray) (a0_7 : Int) (a0_8 : Int) (a0_9 : Int) (l0_10 : List (SNode)) : Option (Int) := (verify_May.f k a0_0 a0_1 a0_2 a0_3).bind fun t103 => (some t103)
set_option maxHeartbeats 8000000 in
set_option maxRecDepth 100000 in
theorem verify_asked_root.calls (k : Nat) (a0_0 : ByteArray) (a0_1 : Int) (a0_2 : Int) (a0_3 : Int) (a0_4 : Bool) (a0_5 : ByteArray) (a0_6 : ByteArray) (a0_7 : Int) (a0_8 : Int) (a0_9 : Int) (A0_10 : Option Addr) (c0_10 : Nat) (l0_10 : List (SNode)) (r : Int) (w : World) (hr0_10 : Kd.C kNode w A0_10 l0_10.length l0_10) (hc0_10 : l0_10.length ≤ c0_10) (h : verify_asked_root.f k a0_0 a0_1 a0_2 a0_3 a0_4 a0_5 a0_6 a0_7 a0_8 a0_9 l0_10 = some r) :
  Calls Tryd.prog 83 #[.agg #[.string a0_0, .int .u64 a0_1, .int .u64 a0_2, .int .i64 a0_3, .bool a0_4, .string a0_5, .string a0_6, .int .u64 a0_7, .int .u64 a0_8, .int .u64 a0_9, .slice A0_10 l0_10.length c0_10]] w fun e w' => e = .returned (.int .i64 r) ∧ Below w.heap.size w w' := by
 have hu146 := Tryd.underlying146
 have hu41 := Tryd.underlying41
 have HR0_10 := aM' hr0_10
 have HC0_10 := aM' hc0_10
 clear hr0_10 hc0_10
 have HB := aM' (Below.refl w.heap.size w)
 have H : ((verify_May.f k a0_0 a0_1 a0_2 a0_3).bind fun t103 => (some t103)) = some r := h
 clear h
 replace H := Option.bind_eq_some_iff.mp H
 obtain ⟨t103, A20, H⟩ := H
 replace H : (some t103) = some r := H
 have A2 := aM' A20
 clear A20
 obtain rfl := Option.some.inj H
 go_enter Tryd.func83, Tryd.ntmps83
 go_wp2_with (first | ((with_reducible refine gate_dst (N := 1) rfl ?_); refine box_event ?hg (N := 1) ?hd (cs := #[.string a0_0, .int .u64 a0_1, .int .u64 a0_2, .int .i64 a0_3, .bool a0_4, .string a0_5, .string a0_6, .int .u64 a0_7, .int .u64 a0_8, .int .u64 a0_9, .slice A0_10 l0_10.length c0_10]) (t := 146) ?hr ?_; (case hd => rfl); (case hg => rfl); (case hr => first | (go_simp; done) | (go_simp; rfl)); intro gb102 hg w3 hbox hb; have n0_ := aM' (below_step (by repeat (first | (with_reducible first | exact HB.out | apply below_alloc | apply pw_below_drewN | apply below_drew1) | exact HB.out)) hb); have n1_ := aM' (hbox); have n2_ := aM' ((by rw [hg]; exact (below_size (by repeat (first | (with_reducible first | exact HB.out | apply below_alloc | apply pw_below_drewN | apply below_drew1) | exact HB.out))) : w.heap.size ≤ gb102)); have n3_ := aM' ((by rw [hg]; exact (below_size (by repeat (first | (with_reducible first | exact HB.out | apply below_alloc | apply pw_below_drewN | apply below_drew1) | exact HB.out))) : w.heap.size ≤ gb102)); clear HB; have HB := n0_; have BK102 := n1_; have GW102 := n2_; have GE102 := n3_; clear n0_ n1_ n2_ n3_; clear hb hbox hg; have hcz4_0 : w3.cell? ⟨gb102, 0, none⟩ = some (.string a0_0) := (blk_cell BK102.out 0).trans rfl; have hcz4_1 : w3.cell? ⟨gb102, 1, none⟩ = some (.int .u64 a0_1) := (blk_cell BK102.out 1).trans rfl; have hcz4_2 : w3.cell? ⟨gb102, 2, none⟩ = some (.int .u64 a0_2) := (blk_cell BK102.out 2).trans rfl; have hcz4_3 : w3.cell? ⟨gb102, 3, none⟩ = some (.int .i64 a0_3) := (blk_cell BK102.out 3).trans rfl; have hcz4_4 : w3.cell? ⟨gb102, 4, none⟩ = some (.bool a0_4) := (blk_cell BK102.out 4).trans rfl; have hcz4_5 : w3.cell? ⟨gb102, 5, none⟩ = some (.string a0_5) := (blk_cell BK102.out 5).trans rfl; have hcz4_6 : w3.cell? ⟨gb102, 6, none⟩ = some (.string a0_6) := (blk_cell BK102.out 6).trans rfl; have hcz4_7 : w3.cell? ⟨gb102, 7, none⟩ = some (.int .u64 a0_7) := (blk_cell BK102.out 7).trans rfl; have hcz4_8 : w3.cell? ⟨gb102, 8, none⟩ = some (.int .u64 a0_8) := (blk_cell BK102.out 8).trans rfl; have hcz4_9 : w3.cell? ⟨gb102, 9, none⟩ = some (.int .u64 a0_9) := (blk_cell BK102.out 9).trans rfl; have hcz4_10 : w3.cell? ⟨gb102, 10, none⟩ = some (.slice A0_10 l0_10.length c0_10) := (blk_cell BK102.out 10).trans rfl; have hfz4_0 := blk_frozen BK102.out 0; have hfz4_1 := blk_frozen BK102.out 1; have hfz4_2 := blk_frozen BK102.out 2; have hfz4_3 := blk_frozen BK102.out 3; have hfz4_4 := blk_frozen BK102.out 4; have hfz4_5 := blk_frozen BK102.out 5; have hfz4_6 := blk_frozen BK102.out 6; have hfz4_7 := blk_frozen BK102.out 7; have hfz4_8 := blk_frozen BK102.out 8; have hfz4_9 := blk_frozen BK102.out 9; have hfz4_10 := blk_frozen BK102.out 10) | ((with_reducible refine gate_callee (f := 109) rfl ?_); refine goesL_ (some 5) rfl rfl Tryd.func109 (by kernel_rfl) rfl #[.agg #[.string a0_0, .int .u64 a0_1, .int .u64 a0_2, .int .i64 a0_3]] rfl (by (try simp only [List.map_toArray, List.map_cons, List.map_nil]); first | done | rfl | (simp only [List.length_drop, List.length_take]; rfl)) ?_; (with_reducible refine (verify_May.calls k a0_0 a0_1 a0_2 a0_3 t103 _ A2.out).mono ?_); rintro e w5 ⟨rfl, hb⟩; refine ⟨_, rfl, ?_⟩; have n0_ := aM' (blk_below (g := gb102) (o := .cells #[.string a0_0, .int .u64 a0_1, .int .u64 a0_2, .int .i64 a0_3, .bool a0_4, .string a0_5, .string a0_6, .int .u64 a0_7, .int .u64 a0_8, .int .u64 a0_9, .slice A0_10 l0_10.length c0_10] 146 (0, 0)) (by (with_reducible repeat (first | refine blk_drewN ?_ _ | refine blk_drew ?_ | refine blk_alloc ?_ _)); exact BK102.out) hb); have n1_ := aM' (below_step (by repeat (first | (with_reducible first | exact HB.out | apply below_alloc | apply pw_below_drewN | apply below_drew1 | refine below_set ?_ GE102.out) | exact HB.out)) hb); clear BK102; clear HB; have BK102 := n0_; have HB := n1_; clear n0_ n1_; (try clear hb); (try clear hb2); (try clear hk); (try clear hi)))
 go_ret
 exact ⟨by first | rfl | (simp [errW_none, errW_some] <;> rfl) | (simp [*, errW_none, errW_some] <;> rfl), by repeat (first | (with_reducible first | exact HB.out | apply below_alloc | apply pw_below_drewN | apply below_drew1 | refine below_set ?_ GE102.out) | exact HB.out)⟩
end Go.Proofs.YtfcodmdckcihmaaDoor.P
namespace Go.Proofs.YtfcodmdckcihmaaDoor.P
open Go.RowKit Go.Proofs.YtfcodmdckcihmaaDoorW.PrintWords Go.Proofs.YtfcodmdckcihmaaDoorW.PrintLast Go.Proofs.YtfcodmdckcihmaaDoorW.PrintMore
set_option linter.unusedVariables false
set_option linter.unusedSimpArgs false
set_option linter.unnecessarySimpa false
structure OkE (e : SEntry) : Prop where
 id : e.f0.f1.size ≤ 1000000
 sa : e.f0.f2.size ≤ 1000000
 ub : OkU e.f0.f3
 p : 0 ≤ e.f1.f0 ∧ e.f1.f0 < 18446744073709551616
 us : ∀ x ∈ e.f1.f1, OkU x.f1
 ls : e.f1.f1.length ≤ 9223372036854775807
def climbE (w : Int) (e : SEntry) : ByteArray × Int × Int × Int := climbI w (leafNodeI w e.f0) e.f1.f0 e.f1.f1
def upI (w : Int) (e : SEntry) : ByteArray × Int × Int × Int × Int :=
 if mayLeafI e.f0 = true then
  (if shapeN w (e.f1.f1.length : Int) e.f1.f0 e.f1.f1 = 0 then
   (if (climbE w e).2.2.2 = 0 then ((climbE w e).1, (climbE w e).2.1, (climbE w e).2.2.1, (e.f1.f1.length : Int), 0) else (⟨#[]⟩, 0, 0, 0, (climbE w e).2.2.2))
  else (⟨#[]⟩, 0, 0, 0, shapeN w (e.f1.f1.length : Int) e.f1.f0 e.f1.f1))
 else (⟨#[]⟩, 0, 0, 0, 130)
def mayRI (r : SRoot) : Int := if r.f2 < 0 ∨ r.f2 > 63 then 120 else if (r.f0.size : Int) < 1 ∨ (r.f0.size : Int) > 32 then 70 else 0
def checkI (r : SRoot) (e : SEntry) : Int :=
 if mayRI r = 0 then
  (if mayLeafI e.f0 = true then
   (if shapeN (r.f0.size : Int) r.f2 e.f1.f0 e.f1.f1 = 0 then
    (if (climbE (r.f0.size : Int) e).2.2.2 = 0 then
     (if (climbE (r.f0.size : Int) e).1.toList = r.f0.toList ∧ (climbE (r.f0.size : Int) e).2.1 = r.f1.f0 ∧ (climbE (r.f0.size : Int) e).2.2.1 = r.f1.f1 then 0 else 160)
    else (climbE (r.f0.size : Int) e).2.2.2)
   else shapeN (r.f0.size : Int) r.f2 e.f1.f0 e.f1.f1)
  else 130)
 else mayRI r
theorem nodeClimb_eq (w : Int) (e : SEntry) (h : OkE e) : node_Climb.f w (leafNodeI w e.f0).f0 (leafNodeI w e.f0).f1.f0 (leafNodeI w e.f0).f1.f1 e.f1.f0 e.f1.f1 = some (climbE w e) := by
 have u := leafNodeI_ok w e.f0 h.ub
 unfold node_Climb.f climbE
 rw [if_pos ⟨h.p.1, ⟨u.h0, u.h1⟩, fun x hx => ⟨(h.us x hx).h0, (h.us x hx).h1⟩⟩]
theorem verifyMay_ev (r : SRoot) : Ev (fun k => verify_May.f k r.f0 r.f1.f0 r.f1.f1 r.f2) (mayRI r) := by
 have hj : ∀ b : Bool, (b = true ↔ (r.f2 < 0 ∨ r.f2 > 63)) → Ev (fun k => verify_May.j0 k b r.f0 r.f1.f0 r.f1.f1 r.f2) (mayRI r) := by
  intro b hb
  refine Ev.step (f := fun _ => some (mayRI r)) (fun k => ?_) (Ev.now _)
  rw [verify_May.j0]
  unfold mayRI
  by_cases h1 : r.f2 < 0 ∨ r.f2 > 63
  ·
   rw [if_pos (hb.2 h1), if_pos h1]
  ·
   rw [if_neg (fun h => h1 (hb.1 h)), if_neg h1]
   by_cases h2 : (r.f0.size : Int) < 1
   ·
    rw [if_pos h2, if_pos (.inl h2)]
   ·
    rw [if_neg h2]
    by_cases h3 : (r.f0.size : Int) > 32
    ·
     rw [if_pos h3, if_pos (.inr h3)]
    ·
     rw [if_neg h3, if_neg (by omega)]
 unfold verify_May.f
 by_cases h : r.f2 < 0
 ·
  exact Ev.congr (fun k => by rw [if_pos h]) (hj true (by simp [h]))
 ·
  exact Ev.congr (fun k => by rw [if_neg h]) (hj (decide (r.f2 > 63)) (by simp; omega))
end Go.Proofs.YtfcodmdckcihmaaDoor.P
namespace Go.Proofs.YtfcodmdckcihmaaDoor.P
open Go.RowKit Go.Proofs.YtfcodmdckcihmaaDoorW.PrintWords Go.Proofs.YtfcodmdckcihmaaDoorW.PrintLast Go.Proofs.YtfcodmdckcihmaaDoorW.PrintMore
set_option linter.unusedVariables false
set_option linter.unusedSimpArgs false
set_option linter.unnecessarySimpa false
theorem shapeN_zero {a0 a1 p : Int} {l : List SNode} (h : shapeN a0 a1 p l = 0) : (0 ≤ a1 ∧ a1 ≤ 63) ∧ (1 ≤ a0 ∧ a0 ≤ 32) ∧ (∀ x ∈ l, nodeOf a0 x = true) ∧ (l.length : Int) = a1 := by
 unfold shapeN at h
 split at h
 ·
  exact absurd h (by decide)
 split at h
 ·
  exact absurd h (by decide)
 split at h
 ·
  exact absurd h (by decide)
 rename_i h1 h2 h3
 have g1 : ¬ a0 < 1 := fun h => h2 (.inl h)
 have g2 : ¬ a0 > 32 := fun h => h2 (.inr (.inl h))
 refine ⟨by omega, by omega, fun x hx => ?_, ?_⟩
 ·
  cases hn : nodeOf a0 x with
  | true => rfl
  | false => exact absurd (.inr (.inr (List.any_eq_true.2 ⟨x, hx, by rw [hn]; rfl⟩))) h2
 ·
  exact Classical.byContradiction fun h => h3 (.inl h)
theorem mayRI_zero {r : SRoot} : mayRI r = 0 ↔ (0 ≤ r.f2 ∧ r.f2 ≤ 63) ∧ (1 ≤ (r.f0.size : Int) ∧ (r.f0.size : Int) ≤ 32) := by
 unfold mayRI
 split
 ·
  exact ⟨fun h => absurd h (by decide), fun h => by omega⟩
 split
 ·
  exact ⟨fun h => absurd h (by decide), fun h => by omega⟩
 exact ⟨fun _ => by omega, fun _ => rfl⟩
structure UpOk (w : Int) (e : SEntry) : Prop where
 may : mayLeafI e.f0 = true
 shape : shapeN w (e.f1.f1.length : Int) e.f1.f0 e.f1.f1 = 0
 err : (climbE w e).2.2.2 = 0
theorem checkI_iff (r : SRoot) (e : SEntry) : checkI r e = 0 ↔ (UpOk (r.f0.size : Int) e ∧ (climbE (r.f0.size : Int) e).1.toList = r.f0.toList ∧ (climbE (r.f0.size : Int) e).2.1 = r.f1.f0 ∧ (climbE (r.f0.size : Int) e).2.2.1 = r.f1.f1 ∧ (e.f1.f1.length : Int) = r.f2) := by
 unfold checkI
 constructor
 ·
  intro h
  split at h
  ·
   split at h
   ·
    rename_i hm
    split at h
    ·
     rename_i hs
     split at h
     ·
      rename_i hc
      split at h
      ·
       rename_i ht
       have hl := (shapeN_zero hs).2.2.2
       rw [← hl] at hs
       exact ⟨⟨hm, hs, hc⟩, ht.1, ht.2.1, ht.2.2, hl⟩
      ·
       exact absurd h (by decide)
     ·
      rename_i hc; exact absurd h hc
    ·
     rename_i hs; exact absurd h hs
   ·
    exact absurd h (by decide)
  ·
   rename_i hm; exact absurd h hm
 ·
  rintro ⟨u, h1, h2, h3, h4⟩
  have hs := u.shape
  obtain ⟨hH, hw, _, _⟩ := shapeN_zero hs
  rw [h4] at hs hH
  rw [if_pos (mayRI_zero.2 ⟨hH, hw⟩), if_pos u.may, if_pos hs, if_pos u.err, if_pos ⟨h1, h2, h3⟩]
end Go.Proofs.YtfcodmdckcihmaaDoor.P
namespace Go.Proofs.YtfcodmdckcihmaaDoor.P
open Go.RowKit Go.Proofs.YtfcodmdckcihmaaDoorW.PrintWords Go.Proofs.YtfcodmdckcihmaaDoorW.PrintLast Go.Proofs.YtfcodmdckcihmaaDoorW.PrintMore
set_option linter.unusedVariables false
set_option linter.unusedSimpArgs false
set_option linter.unnecessarySimpa false
def textsL (w : Int) : SNode → List (SNode × Bool) → List ByteArray
 | _, [] => []
 | n, x :: xs => (if x.2 then nodeText n x.1 else nodeText x.1 n) :: textsL w (stepV w n x) xs
theorem textsL_len (w : Int) : ∀ (xs : List (SNode × Bool)) (n : SNode), (textsL w n xs).length = xs.length
 | [], _ => rfl
 | x :: xs, n => by rw [textsL, List.length_cons, List.length_cons, textsL_len w xs]
theorem stepV_f0 (w : Int) (n : SNode) (x : SNode × Bool) : (stepV w n x).f0 = dgI w (if x.2 then nodeText n x.1 else nodeText x.1 n) := by
 unfold stepV; split <;> rfl
def NoCol (w : Int) (a b : List ByteArray) : Prop := ∀ (i : Nat) (s t : ByteArray), a[i]? = some s → b[i]? = some t → s ≠ t → dgI w s ≠ dgI w t
theorem spoilt_way {w : Int} : ∀ (xs ys : List (SNode × Bool)) (n n' : SNode), xs.map (·.2) = ys.map (·.2) → NodeK w n → NodeK w n' → (∀ x ∈ xs, NodeK w x.1) → (∀ x ∈ ys, NodeK w x.1) → valU n.f1 + totX xs < 340282366920938463463374607431768211456 → valU n'.f1 + totX ys < 340282366920938463463374607431768211456 →
  NoCol w (textsL w n xs) (textsL w n' ys) → (climbV w n xs).f0 = (climbV w n' ys).f0 → n.f0 = n'.f0 ∧ xs = ys
 | [], [], n, n', _, _, _, _, _, _, _, _, h => ⟨h, rfl⟩
 | [], y :: ys, n, n', hb, _, _, _, _, _, _, _, _ => by simp at hb
 | x :: xs, [], n, n', hb, _, _, _, _, _, _, _, _ => by simp at hb
 | x :: xs, y :: ys, n, n', hb, hn, hn', hx, hy, ht, ht', hc, h => by
  simp only [List.map_cons, List.cons.injEq] at hb
  rw [totX_cons] at ht ht'
  have hx0 := hx x (by simp)
  have hy0 := hy y (by simp)
  have tx := totX_nn (xs := xs) (fun z hz => hx z (List.mem_cons_of_mem _ hz))
  have ty := totX_nn (xs := ys) (fun z hz => hy z (List.mem_cons_of_mem _ hz))
  have k1 := stepV_k hn hx0 (by omega)
  have k2 := stepV_k hn' hy0 (by omega)
  obtain ⟨h1, h2⟩ := spoilt_way xs ys (stepV w n x) (stepV w n' y) hb.2 k1 k2 (fun z hz => hx z (List.mem_cons_of_mem _ hz)) (fun z hz => hy z (List.mem_cons_of_mem _ hz)) (by rw [stepV_val]; omega) (by rw [stepV_val]; omega)
   (fun i s t hs hst => hc (i + 1) s t hs hst) h
  rw [stepV_f0, stepV_f0] at h1
  have e := Classical.byContradiction fun hne => hc 0 _ _ rfl rfl hne h1
  have hb1 := hb.1
  rcases x with ⟨x, bx⟩; rcases y with ⟨y, b2⟩
  dsimp only at *
  subst hb1
  cases bx with
  | true =>
   rw [if_pos rfl, if_pos rfl] at e
   obtain ⟨e1, e2⟩ := nodeText_inj e (nodeK_size hn hn') hn.u hx0.u hn'.u hy0.u
   exact ⟨by rw [e1], by rw [e2, h2]⟩
  | false =>
   rw [if_neg (by decide), if_neg (by decide)] at e
   obtain ⟨e1, e2⟩ := nodeText_inj e (nodeK_size hx0 hy0) hx0.u hn.u hy0.u hn'.u
   exact ⟨by rw [e2], by rw [e1, h2]⟩
def textsE (w : Int) (e : SEntry) : List ByteArray := leafTextI e.f0 :: textsL w (leafNodeI w e.f0) (turnsTo e.f1.f0 e.f1.f1 e.f1.f1.length)
theorem turnsTo_snd (p : Int) (l : List SNode) : (turnsTo p l l.length).map (·.2) = (List.range l.length).map (rightS p) := by
 unfold turnsTo; rw [List.map_map]; rfl
theorem upOk_parts {w : Int} {e : SEntry} (ok : OkE e) (h : UpOk w e) : (1 ≤ w ∧ w ≤ 32) ∧ NodeK w (leafNodeI w e.f0) ∧ (∀ x ∈ e.f1.f1, NodeK w x) ∧ e.f1.f1.length ≤ 63 ∧ valU (leafNodeI w e.f0).f1 + totL e.f1.f1 < 340282366920938463463374607431768211456 := by
 obtain ⟨hH, hw, hN, _⟩ := shapeN_zero h.shape
 have hn : NodeK w (leafNodeI w e.f0) := by
  refine ⟨?_, leafNodeI_ok w e.f0 ok.ub⟩
  unfold leafNodeI
  rw [if_pos ⟨hw, h.may⟩]
  have e1 : ((dgI w (leafTextI e.f0)).size : Int) = w := by rw [dgI_size _ _ (by omega) hw.2]; omega
  simp [nodeOf, e1, hw.1, hw.2]
 have hl : ∀ x ∈ e.f1.f1, NodeK w x := fun x hx => ⟨hN x hx, ok.us x hx⟩
 refine ⟨hw, hn, hl, by omega, ?_⟩
 refine Classical.byContradiction fun hr => ?_
 have hf := climbI_full (p := e.f1.f0) hn hl (by omega) hr
 have := h.err
 unfold climbE at this
 rw [hf] at this
 exact absurd this (by decide)
theorem spoilt_same {r : SRoot} {a b : SEntry} (oa : OkE a) (ob : OkE b) (ha : checkI r a = 0) (hb : checkI r b = 0) (hp : a.f1.f0 = b.f1.f0) (hc : NoCol (r.f0.size : Int) (textsE (r.f0.size : Int) a) (textsE (r.f0.size : Int) b)) : a = b := by
 obtain ⟨ua, a1, -, -, a4⟩ := (checkI_iff _ _).1 ha
 obtain ⟨ub, b1, -, -, b4⟩ := (checkI_iff _ _).1 hb
 obtain ⟨hw, ka, sa, la, ta⟩ := upOk_parts oa ua
 obtain ⟨-, kb, sb, lb, tb⟩ := upOk_parts ob ub
 generalize (r.f0.size : Int) = w at *
 have ca := climbI_room (p := a.f1.f0) ka sa la ta
 have cb := climbI_room (p := b.f1.f0) kb sb lb tb
 unfold climbE at a1 b1
 rw [ca.1] at a1
 rw [cb.1] at b1
 have hl : a.f1.f1.length = b.f1.f1.length := by omega
 have hr : (climbV w (leafNodeI w a.f0) (turnsTo a.f1.f0 a.f1.f1 a.f1.f1.length)).f0 = (climbV w (leafNodeI w b.f0) (turnsTo b.f1.f0 b.f1.f1 b.f1.f1.length)).f0 := by
  have h1 := a1.trans b1.symm
  refine ByteArray.ext ?_
  simpa [ByteArray.toList_eq] using h1
 obtain ⟨h1, h2⟩ := spoilt_way _ _ _ _ (by rw [turnsTo_snd, turnsTo_snd, hl, hp]) ka kb (turnsTo_k sa) (turnsTo_k sb) (by rw [totX_turns]; exact ta) (by rw [totX_turns]; exact tb) (fun i s t hs ht => hc (i + 1) s t hs ht) hr
 have h3 : a.f1.f1 = b.f1.f1 := by rw [← turnsTo_fst a.f1.f0 a.f1.f1, h2, turnsTo_fst]
 rw [leafNodeI_f0 hw ua.may, leafNodeI_f0 hw ub.may] at h1
 have h4 : leafTextI a.f0 = leafTextI b.f0 := Classical.byContradiction fun hne => hc 0 _ _ rfl rfl hne h1
 have h5 := leafText_inj ua.may ub.may oa.ub ob.ub h4
 rcases a with ⟨a0, a1, a2⟩; rcases b with ⟨b0, b1, b2⟩
 dsimp only at *
 subst h5 h3 hp
 rfl
end Go.Proofs.YtfcodmdckcihmaaDoor.P
namespace Go.Proofs.YtfcodmdckcihmaaDoor.P
open Go.RowKit Go.Proofs.YtfcodmdckcihmaaDoorW.PrintWords Go.Proofs.YtfcodmdckcihmaaDoorW.PrintLast Go.Proofs.YtfcodmdckcihmaaDoorW.PrintMore
set_option linter.unusedVariables false
set_option linter.unusedSimpArgs false
set_option linter.unnecessarySimpa false
attribute [local go_sem] sel_true
structure St6 (V W : World) (wn sn : SNode) (l : Nat → Bool) (γ δ : Nat) : Prop where
 b : Below V.heap.size V W
 h7 : l 7 = true → V.heap.size ≤ γ ∧ W.heap[γ]? = some (.cells (if l 9 = true then nodeA wn else nodeA nodeZ) 46 (0, 0))
 h8 : l 8 = true → V.heap.size ≤ δ ∧ W.heap[δ]? = some (.cells (if l 10 = true then nodeA sn else nodeA nodeZ) 46 (0, 0))
 ne : l 7 = true → l 8 = true → γ ≠ δ
 o9 : l 9 = true → l 7 = true
 o10 : l 10 = true → l 8 = true
section
variable {V W : World} {wn sn : SNode} {l : Nat → Bool} {γ δ : Nat}
theorem St6.start (V : World) (wn sn : SNode) : St6 V V.drew wn sn (fun _ => false) 0 0 := ⟨below_drew (Below.refl _ _), (fun h => by cases h), (fun h => by cases h), (fun h => by cases h), (fun h => by cases h), (fun h => by cases h)⟩
theorem St6.same (h : St6 V W wn sn l γ δ) (i : Nat) (hi : i < 7) : St6 V W wn sn (upd l i) γ δ := by
 have e7 : upd l i 7 = l 7 := upd_no (by omega)
 have e8 : upd l i 8 = l 8 := upd_no (by omega)
 have e9 : upd l i 9 = l 9 := upd_no (by omega)
 have e10 : upd l i 10 = l 10 := upd_no (by omega)
 exact ⟨h.b, by rw [e7, e9]; exact h.h7, by rw [e8, e10]; exact h.h8, by rw [e7, e8]; exact h.ne, by rw [e9, e7]; exact h.o9, by rw [e10, e8]; exact h.o10⟩
theorem St6.no7 (h : St6 V W wn sn l γ δ) (hl : l 7 = false) : l 9 = false := by
 cases hx : l 9 with
 | false => rfl
 | true => rw [h.o9 hx] at hl; cases hl
theorem St6.no8 (h : St6 V W wn sn l γ δ) (hl : l 8 = false) : l 10 = false := by
 cases hx : l 10 with
 | false => rfl
 | true => rw [h.o10 hx] at hl; cases hl
theorem St6.made7 (h : St6 V W wn sn l γ δ) (hl : l 7 = false) : St6 V (W.alloc (.cells #[.string ⟨#[]⟩, .int .u64 0, .int .u64 0] 46)) wn sn (upd l 7) W.heap.size δ := by
 have h9 : upd l 7 9 = false := h.no7 hl
 refine ⟨below_alloc h.b _, fun _ => ⟨h.b.size, ?_⟩, fun hx => ⟨(h.h8 hx).1, blk_alloc (h.h8 hx).2 _⟩, fun _ hx => ?_, (fun hx => by rw [h9] at hx; cases hx), h.o10⟩
 ·
  rw [if_neg (by rw [h9]; decide)]; exact blk_new W _
 ·
  have := blk_lt (h.h8 hx).2; omega
theorem St6.made8 (h : St6 V W wn sn l γ δ) (hl : l 8 = false) : St6 V (W.alloc (.cells #[.string ⟨#[]⟩, .int .u64 0, .int .u64 0] 46)) wn sn (upd l 8) γ W.heap.size := by
 have h10 : upd l 8 10 = false := h.no8 hl
 refine ⟨below_alloc h.b _, fun hx => ⟨(h.h7 hx).1, blk_alloc (h.h7 hx).2 _⟩, fun _ => ⟨h.b.size, ?_⟩, fun hx _ => ?_, h.o9, (fun hx => by rw [h10] at hx; cases hx)⟩
 ·
  rw [if_neg (by rw [h10]; decide)]; exact blk_new W _
 ·
  have := blk_lt (h.h7 hx).2; omega
theorem St6.stored9 (h : St6 V W wn sn l γ δ) (hl : l 9 = false) (h7 : l 7 = true) : St6 V (((W.setCell ⟨γ, 0, none⟩ (.string wn.f0)).setCell ⟨γ, 1, none⟩ (.int .u64 wn.f1.f0)).setCell ⟨γ, 2, none⟩ (.int .u64 wn.f1.f1)) wn sn (upd l 9) γ δ := by
 have hz := h.h7 h7
 rw [if_neg (by rw [hl]; decide)] at hz
 refine ⟨below_set (below_set (below_set h.b hz.1) hz.1) hz.1, fun _ => ⟨hz.1, ?_⟩, fun hx => ⟨(h.h8 hx).1, ?_⟩, h.ne, fun _ => h7, h.o10⟩
 ·
  rw [if_pos (show upd l 9 9 = true from rfl)]; exact blk_put (blk_put (blk_put hz.2 0 _ rfl) 1 _ rfl) 2 _ rfl
 ·
  have hne : δ ≠ γ := fun e => h.ne h7 hx e.symm
  exact blk_far (blk_far (blk_far (h.h8 hx).2 (by exact hne) _) (by exact hne) _) (by exact hne) _
theorem St6.stored10 (h : St6 V W wn sn l γ δ) (hl : l 10 = false) (h8 : l 8 = true) : St6 V (((W.setCell ⟨δ, 0, none⟩ (.string sn.f0)).setCell ⟨δ, 1, none⟩ (.int .u64 sn.f1.f0)).setCell ⟨δ, 2, none⟩ (.int .u64 sn.f1.f1)) wn sn (upd l 10) γ δ := by
 have hz := h.h8 h8
 rw [if_neg (by rw [hl]; decide)] at hz
 refine ⟨below_set (below_set (below_set h.b hz.1) hz.1) hz.1, fun hx => ⟨(h.h7 hx).1, ?_⟩, fun _ => ⟨hz.1, ?_⟩, h.ne, h.o9, fun _ => h8⟩
 ·
  have hne : γ ≠ δ := fun e => h.ne hx h8 e
  exact blk_far (blk_far (blk_far (h.h7 hx).2 (by exact hne) _) (by exact hne) _) (by exact hne) _
 ·
  rw [if_pos (show upd l 10 10 = true from rfl)]; exact blk_put (blk_put (blk_put hz.2 0 _ rfl) 1 _ rfl) 2 _ rfl
theorem St6.done (h : St6 V W wn sn l γ δ) (h7 : l 7 = true) (h8 : l 8 = true) (h9 : l 9 = true) (h10 : l 10 = true) : (V.heap.size ≤ γ ∧ W.heap[γ]? = some (.cells (nodeA wn) 46 (0, 0))) ∧ (V.heap.size ≤ δ ∧ W.heap[δ]? = some (.cells (nodeA sn) 46 (0, 0))) ∧ γ ≠ δ := by
 have a := h.h7 h7
 have b := h.h8 h8
 rw [if_pos h9] at a
 rw [if_pos h10] at b
 exact ⟨a, b, h.ne h7 h8⟩
end
def textV (n : SNode) (x : SNode × Bool) : ByteArray := if x.2 then nodeText n x.1 else nodeText x.1 n
theorem textsL_get (w : Int) : ∀ (T : List (SNode × Bool)) (n : SNode) (i : Nat) (x : SNode × Bool), T[i]? = some x → (textsL w n T)[i]? = some (textV (climbV w n (T.take i)) x)
 | [], n, i, x, h => by simp at h
 | y :: T, n, 0, x, h => by
  obtain rfl := Option.some.inj h
  rfl
 | y :: T, n, i + 1, x, h => by
  have := textsL_get w T (stepV w n y) i x (by simpa using h)
  rw [textsL, List.getElem?_cons_succ, this, List.take_succ_cons, climbV]
theorem texts_take {w : Int} {T : List (SNode × Bool)} {n : SNode} {i : Nat} {x : SNode × Bool} (h : T[i]? = some x) : (textsL w n T).take (i + 1) = (textsL w n T).take i ++ [textV (climbV w n (T.take i)) x] := by
 rw [List.take_add_one, textsL_get w T n i x h]; rfl
theorem climb_take {w : Int} {T : List (SNode × Bool)} {n : SNode} {i : Nat} {x : SNode × Bool} (h : T[i]? = some x) : climbV w n (T.take (i + 1)) = stepV w (climbV w n (T.take i)) x := by
 rw [List.take_add_one, h, climbV_append]; rfl
theorem totX_append (a b : List (SNode × Bool)) : totX (a ++ b) = totX a + totX b := by
 unfold totX; rw [List.map_append, totL_append]
theorem totX_take {w : Int} {T : List (SNode × Bool)} (h : ∀ x ∈ T, NodeK w x.1) (i : Nat) : totX (T.take i) ≤ totX T := by
 have e : totX T = totX (T.take i) + totX (T.drop i) := by rw [← totX_append, List.take_append_drop]
 have := totX_nn (w := w) (xs := T.drop i) (fun x hx => h x (List.mem_of_mem_drop hx))
 omega
theorem climb_room {w : Int} {T : List (SNode × Bool)} {n : SNode} {i : Nat} {x : SNode × Bool} (hn : NodeK w n) (hk : ∀ x ∈ T, NodeK w x.1) (ht : valU n.f1 + totX T < 340282366920938463463374607431768211456) (h : T[i]? = some x) :
  NodeK w (climbV w n (T.take i)) ∧ NodeK w x.1 ∧ valU (climbV w n (T.take i)).f1 + valU x.1.f1 < 340282366920938463463374607431768211456 := by
 have h1 := totX_take hk i
 have h2 := totX_take hk (i + 1)
 have e : totX (T.take (i + 1)) = totX (T.take i) + valU x.1.f1 := by
  rw [List.take_add_one, h, totX_append]
  have e2 : totX ((some x).toList : List (SNode × Bool)) = valU x.1.f1 := by
   show totX [x] = _
   rw [totX_cons]; show _ + 0 = _; omega
  rw [e2]
 refine ⟨(climbL_room (T.take i) n hn (fun y hy => hk y (List.mem_of_mem_take hy)) (by omega)).2.1, hk x (List.mem_of_getElem? h), ?_⟩
 rw [climbV_val]; omega
theorem sum_steps (a b : SU128) (ha : OkU a) (hb : OkU b) (h : valU a + valU b < 340282366920938463463374607431768211456) :
  IntKind.u64.wrap (a.f1 + b.f1) = (a.f1 + b.f1) % 18446744073709551616 ∧ IntKind.u64.wrap (a.f0 + b.f0) = a.f0 + b.f0 ∧ 0 ≤ a.f0 + b.f0 ∧ a.f0 + b.f0 + (a.f1 + b.f1) / 18446744073709551616 < 18446744073709551616 ∧
  (((a.f1 + b.f1) % 18446744073709551616 < a.f1) ↔ (a.f1 + b.f1) / 18446744073709551616 = 1) ∧ ((a.f1 + b.f1) / 18446744073709551616 = 0 ∨ (a.f1 + b.f1) / 18446744073709551616 = 1) := by
 have h0 := ha.h0; have h1 := ha.h1; have h2 := hb.h0; have h3 := hb.h1
 have hr : a.f0 + b.f0 + (a.f1 + b.f1) / 18446744073709551616 < 18446744073709551616 := by
  unfold valU at h; omega
 refine ⟨IntKind.wrap_u64 _, wrapu64_id (by omega) (by omega), by omega, hr, ?_, ?_⟩
 ·
  constructor <;> intro h <;> omega
 ·
  omega
structure TxS (w : World) (e : SEntry) (A : Option Addr) (c g3 g6 : Nat) (nd : SNode) (done : List ByteArray) (v : Value) (V : World) : Prop where
 b : Below w.heap.size w V
 k : V.heap[g3]? = some (.cells #[.bool e.f0.f0, .string e.f0.f1, .string e.f0.f2, .int .u64 e.f0.f3.f0, .int .u64 e.f0.f3.f1, .int .u64 e.f1.f0, .slice A e.f1.f1.length c] 70 (0, 0))
 n : V.heap[g6]? = some (.cells (nodeA nd) 46 (0, 0))
 r : V.ownsRow w.heap.size 9 1 v done.length (done.map Value.string)
 l3 : w.heap.size ≤ g3
 l6 : w.heap.size ≤ g6
section
variable {w V V' : World} {e : SEntry} {A : Option Addr} {c g3 g6 : Nat} {nd : SNode} {done : List ByteArray} {v : Value}
theorem TxS.below (h : TxS w e A c g3 g6 nd done v V) (hb : Below V.heap.size V V') : TxS w e A c g3 g6 nd done v V' := ⟨h.b.trans (hb.mono h.b.size), blk_below h.k hb, blk_below h.n hb, ownB h.r hb, h.l3, h.l6⟩
theorem TxS.form (h : TxS w e A c g3 g6 nd done v V) : ∃ B d, v = .slice B done.length d := by
 rcases h.r.2 with ⟨h, h0⟩ | ⟨g, cap, cur, h, _⟩
 ·
  exact ⟨none, 0, by rw [h, h0]⟩
 ·
  exact ⟨_, _, h⟩
theorem TxS.more {t : ByteArray} {v' : Value} (h : TxS w e A c g3 g6 nd done v V) (hg : V.grownBy V' v.ownBlock) (ho : V'.ownsRow w.heap.size 9 1 v' (done.length + 1) (done.map Value.string ++ [.string t])) : TxS w e A c g3 g6 nd (done ++ [t]) v' V' := by
 have hne : ∀ g cs ty f, V.heap[g]? = some (Obj.cells cs ty f) → ty ≠ 9 → some g ≠ v.ownBlock := fun g cs ty f hh ht e => by
  obtain ⟨c2, h2⟩ := own_cells h.r e.symm
  rw [hh] at h2
  simp only [Option.some.injEq, Obj.cells.injEq] at h2
  exact ht h2.2.1
 refine ⟨below_grown h.b hg (fun r e => (h.r.lt r e).1), (hg.block _ (blk_lt h.k) (hne _ _ _ _ h.k (by decide))).trans h.k, (hg.block _ (blk_lt h.n) (hne _ _ _ _ h.n (by decide))).trans h.n, ?_, h.l3, h.l6⟩
 rw [List.length_append, List.map_append]; exact ho
theorem TxS.setN (h : TxS w e A c g3 g6 nd done v V) (j : Nat) (x : Value) {nd' : SNode} (hx : (nodeA nd).setIfInBounds j x = nodeA nd') : TxS w e A c g3 g6 nd' done v (V.setCell ⟨g6, j, none⟩ x) := by
 have h36 : g3 ≠ g6 := fun e => by
  have h1 := h.k
  rw [e, h.n] at h1
  simp only [Option.some.injEq, Obj.cells.injEq] at h1
  exact absurd h1.2.1 (by decide)
 refine ⟨h.b.setCell (by show w.heap.size ≤ g6; exact h.l6) _, (Below.heap_setCell _ _ _ _ (by show g3 ≠ g6; exact h36)).trans h.k, ?_, ownAny_keep h.r (fun g hg => Below.heap_setCell _ _ _ _ (by
  show g ≠ g6
  intro e
  obtain ⟨c2, h2⟩ := own_cells h.r hg
  rw [e, h.n] at h2
  simp only [Option.some.injEq, Obj.cells.injEq] at h2
  exact absurd h2.2.1 (by decide))), h.l3, h.l6⟩
 have := blk_put h.n j x rfl
 rw [hx] at this
 exact this
end
theorem strInfo : (Tryd.prog.info? 9).map (fun i => (i.zero, i.size, i.bytes)) = some (some (.string ⟨#[]⟩), 1, 16) := by kernel_rfl
theorem one_text {W : World} {g b : Nat} {t : ByteArray} (h : W.heap[g]? = some (.cells #[.string t] 9 (0, 0))) (hb : b ≤ g) : W.ownsRow b 9 1 (.slice (some ⟨g, 0, none⟩) 1 1) [t].length ([t].map Value.string) :=
 ⟨rfl, .inr ⟨g, 1, _, rfl, hb, h, Nat.le_refl _, by decide, rfl, rfl⟩⟩
set_option maxRecDepth 100000 in
set_option maxHeartbeats 8000000 in
theorem texts.calls (wd : Int) (e : SEntry) (A : Option Addr) (c : Nat) (w : World) (hK : LaidT w) (hr : Kd.C kNode w A e.f1.f1.length e.f1.f1) (hc : e.f1.f1.length ≤ c) (he : OkE e) (hup : UpOk wd e) :
  Calls Tryd.prog 46 #[.int .i64 wd, .agg #[.bool e.f0.f0, .string e.f0.f1, .string e.f0.f2, .int .u64 e.f0.f3.f0, .int .u64 e.f0.f3.f1, .int .u64 e.f1.f0, .slice A e.f1.f1.length c]] w fun x w' => ∃ v, x = .returned v ∧ w'.ownsRow w.heap.size 9 1 v (textsE wd e).length ((textsE wd e).map Value.string) ∧ Below w.heap.size w w' := by
 obtain ⟨hw, kl, ks, h63, hroom⟩ := upOk_parts he hup
 obtain ⟨j0, hj, hj0, hj1, hj2⟩ := info_parts strInfo
 obtain ⟨T, hT⟩ : ∃ T, T = turnsTo e.f1.f0 e.f1.f1 e.f1.f1.length := ⟨_, rfl⟩
 obtain ⟨n0, hn0⟩ : ∃ n, n = leafNodeI wd e.f0 := ⟨_, rfl⟩
 obtain ⟨t0, ht0⟩ : ∃ t, t = leafTextI e.f0 := ⟨_, rfl⟩
 have HTE := aM' (show textsE wd e = t0 :: textsL wd n0 T by rw [ht0, hn0, hT]; rfl)
 have HTL := aM' (show T.length = e.f1.f1.length by rw [hT]; exact turnsTo_length _ _ _)
 have HTK := aM' (show ∀ x ∈ T, NodeK wd x.1 by rw [hT]; exact turnsTo_k ks)
 have HRM := aM' (show valU n0.f1 + totX T < 340282366920938463463374607431768211456 by rw [hT, hn0, totX_turns]; exact hroom)
 have HN0 := aM' (show NodeK wd n0 by rw [hn0]; exact kl)
 have HTT := aM' hT
 have HLT := aM' (show tag_LeafText.f e.f0.f0 e.f0.f1 e.f0.f2 e.f0.f3.f0 e.f0.f3.f1 = some t0 by rw [ht0]; exact tagLeafText_eq e.f0 he.id he.sa)
 obtain ⟨kk, hkk⟩ := (tagLeafNode_ev wd e.f0 he.id he.sa).rounds
 rw [← hn0] at hkk
 have HLN := aM' hkk
 have HK := aM' hK
 have HR := aM' hr
 have HC := aM' hc
 have HW := aM' hw
 have H63 := aM' h63
 have HP := aM' he.p
 obtain ⟨sl, hsl⟩ : ∃ n, n = e.f1.f1.length := ⟨_, rfl⟩
 have HSL := aM' hsl
 obtain ⟨W0, hW0⟩ : ∃ V, V = w.alloc (.cells #[.bool e.f0.f0, .string e.f0.f1, .string e.f0.f2, .int .u64 e.f0.f3.f0, .int .u64 e.f0.f3.f1, .int .u64 e.f1.f0, .slice A e.f1.f1.length c] 70) := ⟨_, rfl⟩
 have HB0 := aM' (show Below w.heap.size w W0 by rw [hW0]; exact below_alloc (Below.refl _ _) _)
 have HX0 := aM' (show W0.heap[w.heap.size]? = some (.cells #[.bool e.f0.f0, .string e.f0.f1, .string e.f0.f2, .int .u64 e.f0.f3.f0, .int .u64 e.f0.f3.f1, .int .u64 e.f1.f0, .slice A e.f1.f1.length c] 70 (0, 0)) by rw [hW0]; exact blk_new _ _)
 clear hw kl ks h63 hroom hT hn0 ht0 hkk hK hr hc hsl
 go_enter Tryd.func46, Tryd.ntmps46
 go_wp2_with fail
 rw [← hW0]
 clear hW0
 refine (tag_LeafText.calls e.f0.f0 e.f0.f1 e.f0.f2 e.f0.f3.f0 e.f0.f3.f1 t0 W0 (HK.out.below HB0.out) HLT.out).mono ?_
 rintro ee w1 ⟨rfl, hb⟩
 have HB1 := aM' (HB0.out.trans (hb.mono HB0.out.size))
 have HX1 := aM' (blk_below HX0.out hb)
 obtain ⟨gt, hgt⟩ : ∃ g, g = w1.heap.size := ⟨_, rfl⟩
 obtain ⟨W2, hW2⟩ : ∃ V, V = w1.alloc (.cells #[.string t0] 9) := ⟨_, rfl⟩
 have hb2 : Below w1.heap.size w1 W2 := by rw [hW2]; exact below_alloc (Below.refl _ _) _
 have HB2 := aM' (HB1.out.trans (hb2.mono HB1.out.size))
 have HX2 := aM' (blk_below HX1.out hb2)
 have HGT := aM' (show W2.heap[gt]? = some (.cells #[.string t0] 9 (0, 0)) by rw [hW2, hgt]; exact blk_new _ _)
 have HGL := aM' (show w.heap.size ≤ gt by rw [hgt]; exact HB1.out.size)
 go_upto_region 2 with (fail)
 simp only [← hgt, ← hW2]
 clear hb hb2 hgt hW2
 have x0 := blk_cell HX2.out 0
 have x1 := blk_cell HX2.out 1
 have x2 := blk_cell HX2.out 2
 have x3 := blk_cell HX2.out 3
 have x4 := blk_cell HX2.out 4
 simp at x0 x1 x2 x3 x4
 go_wp2_with fail
 refine (tag_LeafNode.calls kk wd e.f0.f0 e.f0.f1 e.f0.f2 e.f0.f3.f0 e.f0.f3.f1 n0.f0 n0.f1.f0 n0.f1.f1 W2 (HK.out.below HB2.out) HLN.out).mono ?_
 rintro ee w3 ⟨rfl, hb⟩
 clear x0 x1 x2 x3 x4
 obtain ⟨g6, hg6⟩ : ∃ g, g = w3.heap.size := ⟨_, rfl⟩
 obtain ⟨W4, hW4⟩ : ∃ V, V = w3.alloc (.cells #[.string n0.f0, .int .u64 n0.f1.f0, .int .u64 n0.f1.f1] 46) := ⟨_, rfl⟩
 have hb4 : Below W2.heap.size W2 W4 := by rw [hW4]; exact below_alloc hb _
 have HS4 := aM' (show TxS w e A c w.heap.size g6 n0 [t0] (.slice (some ⟨gt, 0, none⟩) 1 1) W4 from ⟨HB2.out.trans (hb4.mono HB2.out.size), blk_below HX2.out hb4, by rw [hW4, hg6]; exact blk_new _ _, ownB (one_text HGT.out HGL.out) hb4, Nat.le_refl _, by rw [hg6]; exact Nat.le_trans HB2.out.size hb.size⟩)
 obtain ⟨g3, hg3⟩ : ∃ g, g = w.heap.size := ⟨_, rfl⟩
 rw [← hg3] at HS4
 go_upto_region 3 with (fail)
 simp only [← hg6, ← hW4, ← hg3]
 have HG3 := aM' hg3
 clear hb hb4 hg6 hW4 hg3
 go_wp2
 go_loopw [5, 7] (fun v5 v7 wr => ∃ i : Nat, v7 = .int .i64 (i : Int) ∧ Aside0 (i ≤ sl) ∧ Aside0 (∃ done, done = (textsE wd e).take (i + 1) ∧ done.length = i + 1 ∧ TxS w e A c g3 g6 (climbV wd n0 (T.take i)) done v5 wr)) (fun _ v7 _ => sl - (intOf v7).toNat)
 case atStart => exact ⟨0, rfl, ⟨Nat.zero_le _⟩, ⟨[t0], by rw [HTE.out]; rfl, rfl, HS4.out⟩⟩
 case round =>
  obtain ⟨i, rfl, HI, HSR⟩ := hrel
  obtain ⟨done, hdone, hdl, hts⟩ := HSR.out
  have HS := aM' hts
  obtain ⟨B, d, hv⟩ := hts.form
  subst hv
  have HDL := aM' hdl
  have HDE := aM' hdone
  have hi63 : i ≤ 63 := by have := HI.out; have := H63.out; have := HSL.out; omega
  have x6 : wr.cell? ⟨g3, 6, none⟩ = some (.slice A e.f1.f1.length c) := blk_cell hts.k 6
  rw [← HSL.out] at x6
  clear hdone hts
  by_cases hlt : i < sl
  ·
   have b1 : decide ((i : Int) < (sl : Int)) = true := decide_eq_true (by omega)
   have b2 : decide (i < sl) = true := decide_eq_true hlt
   have b3 : decide ((i : Int) < 64) = true := decide_eq_true (by omega)
   have b4 : decide (i < 64) = true := decide_eq_true (by omega)
   have HLT2 := aM' hlt
   have hle : i < e.f1.f1.length := by have := HSL.out; omega
   obtain ⟨sd, hsd⟩ : ∃ s, s = e.f1.f1[i]'hle := ⟨_, rfl⟩
   obtain ⟨P, hP⟩ : ∃ P : Nat, (P : Int) = e.f1.f0 := ⟨e.f1.f0.toNat, Int.toNat_of_nonneg HP.out.1⟩
   have hP64 : P < 18446744073709551616 := by have := HP.out.2; omega
   obtain ⟨q, hq⟩ : ∃ q, q = P / 2 ^ i := ⟨_, rfl⟩
   have hq64 : q < 18446744073709551616 := by rw [hq]; exact Nat.lt_of_le_of_lt (Nat.div_le_self _ _) hP64
   obtain ⟨o, ho⟩ : ∃ o, o = q % 2 := ⟨_, rfl⟩
   obtain ⟨bo, hbo⟩ : ∃ b : Bool, ((o : Int) == 1) = b := ⟨_, rfl⟩
   have hti : T[i]? = some (sd, !bo) := by
    have h1 : T[i]? = some (e.f1.f1.getD i ⟨ByteArray.empty, ⟨0, 0⟩⟩, rightS e.f1.f0 i) := by
     rw [HTT.out]; unfold turnsTo
     rw [List.getElem?_map, List.getElem?_range hle]; rfl
    rw [h1, ← hP, rightS_nat P i hP64, ← hq, ← ho]
    have h2 : e.f1.f1.getD i ⟨ByteArray.empty, ⟨0, 0⟩⟩ = sd := by rw [hsd]; simp [List.getD_eq_getElem?_getD, hle]
    rw [h2]
    refine congrArg some (Prod.ext rfl ?_)
    have h3 : o < 2 := by rw [ho]; exact Nat.mod_lt _ (by decide)
    rw [← hbo]
    rcases Nat.lt_or_ge o 1 with h4 | h4
    ·
     obtain rfl : o = 0 := by omega
     rfl
    ·
     obtain rfl : o = 1 := by omega
     rfl
   obtain ⟨nd, hnd⟩ : ∃ n, n = climbV wd n0 (T.take i) := ⟨_, rfl⟩
   obtain ⟨knd, ksd, hrs⟩ := climb_room HN0.out HTK.out HRM.out hti
   have htk := texts_take (w := wd) (n := n0) hti
   have hct := climb_take (w := wd) (n := n0) hti
   rw [← hnd] at knd hrs htk hct
   obtain ⟨Ln, hLn⟩ : ∃ n, n = if bo = true then sd else nd := ⟨_, rfl⟩
   obtain ⟨Rn, hRn⟩ : ∃ n, n = if bo = true then nd else sd := ⟨_, rfl⟩
   obtain ⟨s, hs⟩ : ∃ s, s = nodeText Ln Rn := ⟨_, rfl⟩
   obtain ⟨ds, hds⟩ : ∃ z, z = dgI wd s := ⟨_, rfl⟩
   obtain ⟨lo, hlo⟩ : ∃ z, z = (Ln.f1.f1 + Rn.f1.f1) % 18446744073709551616 := ⟨_, rfl⟩
   obtain ⟨hi, hhi⟩ : ∃ z, z = Ln.f1.f0 + Rn.f1.f0 := ⟨_, rfl⟩
   have hkL : NodeK wd Ln := by rw [hLn]; cases bo <;> simp [knd, ksd]
   have hkR : NodeK wd Rn := by rw [hRn]; cases bo <;> simp [knd, ksd]
   have hLR : valU Ln.f1 + valU Rn.f1 < 340282366920938463463374607431768211456 := by
    have hrs' : valU nd.f1 + valU sd.f1 < 340282366920938463463374607431768211456 := hrs
    rw [hLn, hRn]
    cases bo with
    | false => exact hrs'
    | true =>
     show valU sd.f1 + valU nd.f1 < _
     omega
   obtain ⟨w1', w2', hnn, hcar, hlt1, hc01⟩ := sum_steps Ln.f1 Rn.f1 hkL.u hkR.u hLR
   have HTX := aM' (show textV nd (sd, !bo) = s by rw [hs, hLn, hRn]; cases bo <;> rfl)
   have HST := aM' (show stepV wd nd (sd, !bo) = joinV wd Ln Rn by rw [hLn, hRn]; cases bo <;> rfl)
   have HJN := aM' (show joinV wd Ln Rn = ⟨ds, ⟨hi + (Ln.f1.f1 + Rn.f1.f1) / 18446744073709551616, lo⟩⟩ by rw [hds, hs, hhi, hlo]; rfl)
   have HNX := aM' (And.intro htk hct)
   have hszL : Ln.f0.size ≤ 1000000 := by have := nodeOf_w hkL.of; omega
   have hszR : Rn.f0.size ≤ 1000000 := by have := nodeOf_w hkR.of; omega
   have HNT := aM' (show tag_NodeText.f Ln.f0 Ln.f1.f0 Ln.f1.f1 Rn.f0 Rn.f1.f0 Rn.f1.f1 = some s by rw [hs]; exact tagNodeText_eq Ln Rn hszL hszR)
   have HDG := aM' (show tag_Digest.f wd s = some ds by rw [hds]; exact tagDigest_eq wd s HW.out.1 HW.out.2 (by rw [hs, nodeText_size]; omega))
   obtain ⟨adA, eA, p0, p1, p2⟩ := at_TNode HR.out (i : Int) (by omega) (by omega)
   subst eA
   have er : rd_TNode e.f1.f1 (i : Int) = sd := by rw [rd_TNode, Int.toNat_natCast, hsd]; simp [List.getD_eq_getElem?_getD, hle]
   rw [er, Int.toNat_natCast] at p0 p1 p2
   obtain ⟨ps, hps⟩ : ∃ z, z = adA.add (i * 3) := ⟨_, rfl⟩
   rw [← hps] at p0 p1 p2
   have HSC := aM' (show ∀ V : World, Below w.heap.size w V → V.cell? ps = some (.string sd.f0) ∧ V.cell? ⟨ps.block, ps.off + 1, none⟩ = some (.int .u64 sd.f1.f0) ∧ V.cell? ⟨ps.block, ps.off + 2, none⟩ = some (.int .u64 sd.f1.f1) from fun V hV => ⟨pw_cell_below hV p0, pw_cell_below hV p1, pw_cell_below hV p2⟩)
   have HS2 := aM' (show TxS w e (some adA) c g3 g6 nd done (.slice B done.length d) wr by rw [hnd]; exact HS.out)
   have HBO := aM' (show bo = decide (q % 2 = 1) by rw [← hbo, ← ho, Bool.eq_iff_iff, beq_iff_eq, decide_eq_true_iff]; omega)
   have HBIT := aM' (show Go.bits .and .u64 (q : Int) 1 = (o : Int) by rw [bits_odd q hq64, ho])
   have HSH := aM' (show e.f1.f0 / 2 ^ i = (q : Int) by rw [← hP, hq]; simp)
   have HSUM := aM' (And.intro w1' (And.intro w2' (And.intro hnn (And.intro hcar (And.intro hlt1 hc01)))))
   have HLH := aM' (And.intro hlo hhi)
   have HLN := aM' hLn
   have HRN := aM' hRn
   have hps2 := hps.symm
   have hisl : (i : Int) < (sl : Int) := by omega
   have HBO2 := aM' hbo
   clear hle hsd hP hP64 hq hq64 ho hti hnd knd ksd hrs htk hct hLn hRn hs hds hlo hhi hkL hkR hLR w1' w2' hnn hcar hlt1 hc01 hszL hszR p0 p1 p2 er hps hbo
   rw [HDL.out]
   clear hdl
   go_upto_region 6 with (fail)
   refine region_inv (fun l a W => ∃ γ : Nat, ∃ δ : Nat, a = ({ tmps := #[.int .i64 wd, .agg #[.bool e.f0.f0, .string e.f0.f1, .string e.f0.f2, .int .u64 e.f0.f3.f0, .int .u64 e.f0.f3.f1, .int .u64 e.f1.f0, .slice (some adA) e.f1.f1.length c], undef, .pointer (some ⟨g3, 0, none⟩), .slice none 0 0, .slice B (i + 1) d, .pointer (some ⟨g6, 0, none⟩), .int .i64 (i : Int), sel (l 7) (.pointer (some ⟨γ, 0, none⟩)) (u8), sel (l 8) (.pointer (some ⟨δ, 0, none⟩)) (u9), u10, .pointer (some ⟨g3, 0, none⟩), .agg #[.bool e.f0.f0, .string e.f0.f1, .string e.f0.f2, .int .u64 e.f0.f3.f0, .int .u64 e.f0.f3.f1], .string t0, .slice (some ⟨gt, 0, none⟩) 1 1, .int .i64 wd, .pointer (some ⟨g3, 0, none⟩), .agg #[.bool e.f0.f0, .string e.f0.f1, .string e.f0.f2, .int .u64 e.f0.f3.f0, .int .u64 e.f0.f3.f1], .agg #[.string n0.f0, .int .u64 n0.f1.f0, .int .u64 n0.f1.f1], .int .i64 (i : Int), .pointer (some ⟨g3, 5, none⟩), .pointer (some ⟨g3, 6, none⟩), .slice (some adA) sl c, .int .i64 (sl : Int), .bool true, .bool true, .int .i64 (i : Int), .bool true, .bool true, u29, u30, sel (l 0) (.agg #[.string nd.f0, .int .u64 nd.f1.f0, .int .u64 nd.f1.f1]) (u31), sel (l 1) (.pointer (some ⟨g3, 5, none⟩)) (u32), sel (l 2) (.pointer (some ⟨g3, 6, none⟩)) (u33), sel (l 3) (.slice (some adA) sl c) (u34), sel (l 4) (.int .i64 (i : Int)) (u35), sel (l 5) (.pointer (some ps)) (u36), sel (l 6) (.agg #[.string sd.f0, .int .u64 sd.f1.f0, .int .u64 sd.f1.f1]) (u37), u38, u39, u40, u41, u42, u43, u44, u45, u46, u47, u48, u49, u50, u51, u52, u53, u54, u55, u56, u57, u58, u59, u60, u61, u62, u63, u64, u65, u66, u67, u68, u69, u70, u71, u72, u73, u74, u75, u76, u77, u78, u79, u80, u81, u82, u83, u84, u85, u86, u87, u88, u89, undef], defers := [] } : Act) ∧ St6 wr W nd sd l γ δ) 11 rfl rfl (by kernel_rfl) ?h0 ?hend ?hstep
   case h0 => exact ⟨0, 0, rfl, St6.start wr nd sd⟩
   case hstep =>
    refine rg_cons (rg_cons (rg_cons (rg_cons (rg_cons (rg_cons (rg_cons (rg_cons (rg_cons (rg_cons (rg_cons (rg_nil) ?s0) ?s1) ?s2) ?s3) ?s4) ?s5) ?s6) ?s7) ?s8) ?s9) ?s10
    case s0 =>
     refine rg_step rfl ?_
     rintro l a W ⟨γ, δ, rfl, hI⟩ hl hd
     clear hd
     have x0 := blk_cell (blk_below HS2.out.n hI.b) 0
     have x1 := blk_cell (blk_below HS2.out.n hI.b) 1
     have x2 := blk_cell (blk_below HS2.out.n hI.b) 2
     simp at x0 x1 x2
     refine rg_val (v := .agg #[.string nd.f0, .int .u64 nd.f1.f0, .int .u64 nd.f1.f1]) (w' := W) rfl (by go_simp) ?_
     refine ⟨γ, δ, ?_, ?_⟩
     ·
      simp only [Act.put, List.setIfInBounds_toArray, List.set_cons_zero, List.set_cons_succ]; rfl
     ·
      exact hI.same 0 (by decide)
    case s1 =>
     refine rg_step rfl ?_
     rintro l a W ⟨γ, δ, rfl, hI⟩ hl hd
     clear hd
     refine rg_val (v := .pointer (some ⟨g3, 5, none⟩)) (w' := W) rfl (by go_simp) ?_
     refine ⟨γ, δ, ?_, ?_⟩
     ·
      simp only [Act.put, List.setIfInBounds_toArray, List.set_cons_zero, List.set_cons_succ]; rfl
     ·
      exact hI.same 1 (by decide)
    case s2 =>
     refine rg_step rfl ?_
     rintro l a W ⟨γ, δ, rfl, hI⟩ hl hd
     have d1 := hd 1 (by decide)
     clear hd
     refine rg_val (v := .pointer (some ⟨g3, 6, none⟩)) (w' := W) rfl (by go_simp) ?_
     refine ⟨γ, δ, ?_, ?_⟩
     ·
      simp only [Act.put, List.setIfInBounds_toArray, List.set_cons_zero, List.set_cons_succ]; rfl
     ·
      exact hI.same 2 (by decide)
    case s3 =>
     refine rg_step rfl ?_
     rintro l a W ⟨γ, δ, rfl, hI⟩ hl hd
     have d2 := hd 2 (by decide)
     clear hd
     have x6 := blk_cell (blk_below (HSL.out ▸ HS2.out.k) hI.b) 6
     simp at x6
     refine rg_val (v := .slice (some adA) sl c) (w' := W) rfl (by go_simp) ?_
     refine ⟨γ, δ, ?_, ?_⟩
     ·
      simp only [Act.put, List.setIfInBounds_toArray, List.set_cons_zero, List.set_cons_succ]; rfl
     ·
      exact hI.same 3 (by decide)
    case s4 =>
     refine rg_step rfl ?_
     rintro l a W ⟨γ, δ, rfl, hI⟩ hl hd
     clear hd
     refine rg_val (v := .int .i64 (i : Int)) (w' := W) rfl (by go_simp) ?_
     refine ⟨γ, δ, ?_, ?_⟩
     ·
      simp only [Act.put, List.setIfInBounds_toArray, List.set_cons_zero, List.set_cons_succ]; rfl
     ·
      exact hI.same 4 (by decide)
    case s5 =>
     refine rg_step rfl ?_
     rintro l a W ⟨γ, δ, rfl, hI⟩ hl hd
     have d3 := hd 3 (by decide)
     have d4 := hd 4 (by decide)
     clear hd
     refine rg_val (v := .pointer (some ps)) (w' := W) rfl (by go_simp; try rfl) ?_
     refine ⟨γ, δ, ?_, ?_⟩
     ·
      simp only [Act.put, List.setIfInBounds_toArray, List.set_cons_zero, List.set_cons_succ]; rfl
     ·
      exact hI.same 5 (by decide)
    case s6 =>
     refine rg_step rfl ?_
     rintro l a W ⟨γ, δ, rfl, hI⟩ hl hd
     have d5 := hd 5 (by decide)
     clear hd
     obtain ⟨y0, y1, y2⟩ := HSC.out W (HS2.out.b.trans (hI.b.mono HS2.out.b.size))
     refine rg_val (v := .agg #[.string sd.f0, .int .u64 sd.f1.f0, .int .u64 sd.f1.f1]) (w' := W) rfl (by go_simp) ?_
     refine ⟨γ, δ, ?_, ?_⟩
     ·
      simp only [Act.put, List.setIfInBounds_toArray, List.set_cons_zero, List.set_cons_succ]; rfl
     ·
      exact hI.same 6 (by decide)
    case s7 =>
     refine rg_step rfl ?_
     rintro l a W ⟨γ, δ, rfl, hI⟩ hl hd
     clear hd
     have hs : l 9 = false := hI.no7 hl
     have hs' : upd l 7 9 = false := hs
     refine rg_val (v := .pointer (some ⟨W.heap.size, 0, none⟩)) (w' := W.alloc (.cells #[.string ⟨#[]⟩, .int .u64 0, .int .u64 0] 46)) rfl (by go_simp) ?_
     refine ⟨W.heap.size, δ, ?_, ?_⟩
     ·
      simp only [Act.put, List.setIfInBounds_toArray, List.set_cons_zero, List.set_cons_succ]; rfl
     ·
      exact hI.made7 hl
    case s8 =>
     refine rg_step rfl ?_
     rintro l a W ⟨γ, δ, rfl, hI⟩ hl hd
     clear hd
     have hs : l 10 = false := hI.no8 hl
     have hs' : upd l 8 10 = false := hs
     refine rg_val (v := .pointer (some ⟨W.heap.size, 0, none⟩)) (w' := W.alloc (.cells #[.string ⟨#[]⟩, .int .u64 0, .int .u64 0] 46)) rfl (by go_simp) ?_
     refine ⟨γ, W.heap.size, ?_, ?_⟩
     ·
      simp only [Act.put, List.setIfInBounds_toArray, List.set_cons_zero, List.set_cons_succ]; rfl
     ·
      exact hI.made8 hl
    case s9 =>
     refine rg_step rfl ?_
     rintro l a W ⟨γ, δ, rfl, hI⟩ hl hd
     have d0 := hd 0 (by decide)
     have d7 := hd 7 (by decide)
     clear hd
     have hz := hI.h7 d7
     rw [if_neg (by rw [hl]; decide)] at hz
     have z0 := blk_cell hz.2 0
     have z1 := blk_cell hz.2 1
     have z2 := blk_cell hz.2 2
     have zf := fun i => blk_frozen hz.2 i
     simp at z0 z1 z2
     refine rg_skip rfl (by go_simp; rfl) ?_
     refine ⟨γ, δ, ?_, ?_⟩
     ·
      simp only [Act.put, List.setIfInBounds_toArray, List.set_cons_zero, List.set_cons_succ]; rfl
     ·
      exact hI.stored9 hl d7
    case s10 =>
     refine rg_step rfl ?_
     rintro l a W ⟨γ, δ, rfl, hI⟩ hl hd
     have d6 := hd 6 (by decide)
     have d8 := hd 8 (by decide)
     clear hd
     have hz := hI.h8 d8
     rw [if_neg (by rw [hl]; decide)] at hz
     have z0 := blk_cell hz.2 0
     have z1 := blk_cell hz.2 1
     have z2 := blk_cell hz.2 2
     have zf := fun i => blk_frozen hz.2 i
     simp at z0 z1 z2
     refine rg_skip rfl (by go_simp; rfl) ?_
     refine ⟨γ, δ, ?_, ?_⟩
     ·
      simp only [Act.put, List.setIfInBounds_toArray, List.set_cons_zero, List.set_cons_succ]; rfl
     ·
      exact hI.stored10 hl d8
   case hend =>
    rintro l a W ⟨γ, δ, rfl, hI⟩ hall
    have e0 := hall 0 (by decide)
    have e1 := hall 1 (by decide)
    have e2 := hall 2 (by decide)
    have e3 := hall 3 (by decide)
    have e4 := hall 4 (by decide)
    have e5 := hall 5 (by decide)
    have e6 := hall 6 (by decide)
    have e7 := hall 7 (by decide)
    have e8 := hall 8 (by decide)
    have e9 := hall 9 (by decide)
    have e10 := hall 10 (by decide)
    clear hall
    have hn := hI.done e7 e8 e9 e10
    have hB := hI.b
    simp only [e0, e1, e2, e3, e4, e5, e6, e7, e8, e9, e10, sel_true]
    clear e0 e1 e2 e3 e4 e5 e6 e7 e8 e9 e10
    obtain ⟨HGG', HDD', hne0⟩ := hn
    have HGG := aM' HGG'
    have HDD := aM' HDD'
    have HNE := aM' hne0
    have HB6 := aM' hB
    have HS6 := aM' (HS2.out.below hB)
    clear hI hB HGG' HDD' hne0
    have hod : Go.bits .and .u64 (q : Int) 1 = (o : Int) := HBIT.out
    have hsh : e.f1.f0 / 2 ^ i = (q : Int) := HSH.out
    have hwi : IntKind.u64.wrap (i : Int) = (i : Int) := wrapu64_id (by omega) (by omega)
    have x5 : W.cell? ⟨g3, 5, none⟩ = some (.int .u64 e.f1.f0) := blk_cell HS6.out.k 5
    have hbo : ((o : Int) == 1) = bo := HBO2.out
    go_upto_if 45 with (fail)
    clear hod hsh hwi x5 hbo x6
    go_cut [] (fun wc => Aside0 (Below wr.heap.size wr wc ∧ wc.heap[γ]? = some (.cells (nodeA Ln) 46 (0, 0)) ∧ wc.heap[δ]? = some (.cells (nodeA Rn) 46 (0, 0))))
    case first =>
     cases bo with
     | false =>
      go_wp2
      go_meet
      exact ⟨⟨HB6.out, by rw [HLN.out]; exact HGG.out.2, by rw [HRN.out]; exact HDD.out.2⟩⟩
     | true =>
      have p0 := blk_cell HGG.out.2 0
      have p1 := blk_cell HGG.out.2 1
      have p2 := blk_cell HGG.out.2 2
      have pf := fun i => blk_frozen HGG.out.2 i
      have s0 := blk_cell HDD.out.2 0
      have s1 := blk_cell HDD.out.2 1
      have s2 := blk_cell HDD.out.2 2
      have sf := fun i => blk_frozen HDD.out.2 i
      simp at p0 p1 p2 s0 s1 s2
      have hne := HNE.out
      have hne2 := Ne.symm hne
      go_wp2
      go_meet
      refine ⟨⟨?_, ?_, ?_⟩⟩
      ·
       exact below_set (below_set (below_set (below_set (below_set (below_set HB6.out HGG.out.1) HGG.out.1) HGG.out.1) HDD.out.1) HDD.out.1) HDD.out.1
      ·
       rw [HLN.out, if_pos (by trivial)]
       exact blk_far (blk_far (blk_far (blk_put (blk_put (blk_put HGG.out.2 0 _ rfl) 1 _ rfl) 2 _ rfl) (by exact hne) _) (by exact hne) _) (by exact hne) _
      ·
       rw [HRN.out, if_pos (by trivial)]
       exact blk_put (blk_put (blk_put (blk_far (blk_far (blk_far HDD.out.2 (by exact hne2) _) (by exact hne2) _) (by exact hne2) _) 0 _ rfl) 1 _ rfl) 2 _ rfl
    case rest =>
     have HCT : Aside0 (Below wr.heap.size wr wc ∧ wc.heap[γ]? = some (.cells (nodeA Ln) 46 (0, 0)) ∧ wc.heap[δ]? = some (.cells (nodeA Rn) 46 (0, 0))) := hcut
     clear hcut
     have HSc := aM' (HS2.out.below HCT.out.1)
     have u0 := blk_cell HCT.out.2.1 0
     have u1 := blk_cell HCT.out.2.1 1
     have u2 := blk_cell HCT.out.2.1 2
     have v0 := blk_cell HCT.out.2.2 0
     have v1 := blk_cell HCT.out.2.2 1
     have v2 := blk_cell HCT.out.2.2 2
     simp at u0 u1 u2 v0 v1 v2
     go_wp2_with fail
     refine (tag_NodeText.calls Ln.f0 Ln.f1.f0 Ln.f1.f1 Rn.f0 Rn.f1.f0 Rn.f1.f1 s wc HNT.out).mono ?_
     rintro ee w9 ⟨rfl, hb⟩
     have HS9 := aM' (HSc.out.below hb)
     have HU9 := aM' (blk_below HCT.out.2.1 hb)
     have HV9 := aM' (blk_below HCT.out.2.2 hb)
     clear hb u0 u1 u2 v0 v1 v2
     go_wp2_with (at_builtin; refine wpList_append_own _ rfl _ _ 85 rfl w.heap.size 9 j0 (.string ⟨#[]⟩) 1 16 Tryd.underlying85 hj hj0 hj1 hj2 rfl (by decide) (.slice B (i + 1) d) (i + 1) _ rfl (ownB (show w9.ownsRow w.heap.size 9 1 (.slice B (i + 1) d) (i + 1) (done.map Value.string) by have h := HS9.out.r; rw [HDL.out] at h; exact h) (below_alloc (Below.refl _ _) (.cells #[.string s] 9))) ⟨w9.heap.size, 0, none⟩ 1 1 [.string s] rfl rfl ?c2 ?c3 ?c4 ?c5 ?c6 ?_)
     case c2 => exact World.news_of_block (blk_new w9 (.cells #[.string s] 9))
     case c3 =>
      intro u hu
      simp only [List.mem_cons, List.not_mem_nil, or_false] at hu
      rcases hu with rfl
      rfl
     case c4 => unfold maxLen; omega
     case c5 => omega
     case c6 => rw [World.size_alloc]; have := HS9.out.b.size; omega
     intro v' w10 hown hgr hnil
     have hba : Below w9.heap.size w9 (w9.alloc (.cells #[.string s] 9)) := below_alloc (Below.refl _ _) _
     have HS10 := aM' (((HS9.out.below hba)).more (t := s) (v' := v') (V' := w10) (by rw [HDL.out]; exact hgr) (by rw [HDL.out]; exact hown))
     have hno : ∀ g cs, w9.heap[g]? = some (Obj.cells cs 46 (0, 0)) → w10.heap[g]? = some (Obj.cells cs 46 (0, 0)) := fun g cs hh => by
      have h1 := blk_below hh hba
      refine (hgr.block g (blk_lt h1) (fun e => ?_)).trans h1
      obtain ⟨c2, h2⟩ := own_cells (HS9.out.below hba).r (show (Value.slice B done.length d).ownBlock = some g by rw [HDL.out]; exact e.symm)
      rw [h1] at h2
      simp only [Option.some.injEq, Obj.cells.injEq] at h2
      exact absurd h2.2.1 (by decide)
     have HU10 := aM' (hno _ _ HU9.out)
     have HV10 := aM' (hno _ _ HV9.out)
     have HN6 := aM' (show g6 < wr.heap.size from blk_lt HS2.out.n)
     clear hown hgr hnil hba hno
     go_wp2_with fail
     refine (tag_Digest.calls wd s ds w10 (HK.out.below HS10.out.b).1 HDG.out).mono ?_
     rintro ee w11 ⟨rfl, hb⟩
     have HS11 := aM' (HS10.out.below hb)
     have hu11 := blk_below HU10.out hb
     have hv11 := blk_below HV10.out hb
     clear hb
     have u1 := blk_cell hu11 1
     have u2 := blk_cell hu11 2
     have v1 := blk_cell hv11 1
     have v2 := blk_cell hv11 2
     have z0 := blk_cell HS11.out.n 0
     have z1 := blk_cell HS11.out.n 1
     have z2 := blk_cell HS11.out.n 2
     have zf := fun i => blk_frozen HS11.out.n i
     simp at u1 u2 v1 v2 z0 z1 z2
     have hng : γ ≠ g6 := by have := HGG.out.1; have := HN6.out; omega
     have hng2 : g6 ≠ γ := Ne.symm hng
     have hnd : δ ≠ g6 := by have := HDD.out.1; have := HN6.out; omega
     have hnd2 : g6 ≠ δ := Ne.symm hnd
     obtain ⟨w1', w2', hnn, hcar, hlt1, hc01⟩ := HSUM.out
     obtain ⟨hlo, hhi⟩ := HLH.out
     rw [← hlo] at w1' hlt1
     replace w2' : IntKind.u64.wrap (Ln.f1.f0 + Rn.f1.f0) = hi := w2'.trans hhi.symm
     rw [← hhi] at hnn hcar
     have HCAR := aM' (And.intro hcar hc01)
     have HLTC := aM' hlt1
     by_cases hlc : lo < Ln.f1.f1
     ·
      have kc : decide (lo < Ln.f1.f1) = true := decide_eq_true hlc
      have hc1 : (Ln.f1.f1 + Rn.f1.f1) / 18446744073709551616 = 1 := hlt1.1 hlc
      have whi : IntKind.u64.wrap (hi + 1) = hi + 1 := wrapu64_id (by omega) (by omega)
      have HC1 := aM' hc1
      clear hu11 hv11 hlo hhi hlt1 hc01 hcar hnn hlc hc1
      go_wp2
      go_roundw
      case rel =>
       refine ⟨i + 1, by go_num, ⟨by have := HLT2.out; omega⟩, ⟨done ++ [s], ?_, by rw [List.length_append, HDL.out]; rfl, ?_⟩⟩
       ·
        rw [HTE.out, List.take_succ_cons, HNX.out.1, HTX.out, HDE.out, HTE.out, List.take_succ_cons]; rfl
       ·
        rw [HNX.out.2, HST.out, HJN.out, HC1.out]
        exact (((HS11.out.setN 0 (.string ds) (nd' := ⟨ds, nd.f1⟩) rfl).setN 2 (.int .u64 lo) (nd' := ⟨ds, ⟨nd.f1.f0, lo⟩⟩) rfl).setN 1 (.int .u64 hi) (nd' := ⟨ds, ⟨hi, lo⟩⟩) rfl).setN 1 (.int .u64 (hi + 1)) (nd' := ⟨ds, ⟨hi + 1, lo⟩⟩) rfl
      case measure => simp [intOf]; have := HLT2.out; omega
     ·
      have kc : decide (lo < Ln.f1.f1) = false := decide_eq_false hlc
      have hc1 : (Ln.f1.f1 + Rn.f1.f1) / 18446744073709551616 = 0 := by
       rcases hc01 with h | h
       ·
        exact h
       ·
        exact absurd (hlt1.2 h) hlc
      have HC1 := aM' hc1
      clear hu11 hv11 hlo hhi hlt1 hc01 hcar hnn hlc hc1
      go_wp2
      go_roundw
      case rel =>
       refine ⟨i + 1, by go_num, ⟨by have := HLT2.out; omega⟩, ⟨done ++ [s], ?_, by rw [List.length_append, HDL.out]; rfl, ?_⟩⟩
       ·
        rw [HTE.out, List.take_succ_cons, HNX.out.1, HTX.out, HDE.out, HTE.out, List.take_succ_cons]; rfl
       ·
        rw [HNX.out.2, HST.out, HJN.out, HC1.out, Int.add_zero]
        exact ((HS11.out.setN 0 (.string ds) (nd' := ⟨ds, nd.f1⟩) rfl).setN 2 (.int .u64 lo) (nd' := ⟨ds, ⟨nd.f1.f0, lo⟩⟩) rfl).setN 1 (.int .u64 hi) (nd' := ⟨ds, ⟨hi, lo⟩⟩) rfl
      case measure => simp [intOf]; have := HLT2.out; omega
  ·
   obtain rfl : i = sl := by have := HI.out; omega
   have b1 : decide ((i : Int) < (i : Int)) = false := decide_eq_false (by omega)
   have b2 : decide (i < i) = false := decide_eq_false hlt
   have hful : done = textsE wd e := by
    rw [HDE.out, List.take_of_length_le]
    rw [HTE.out, List.length_cons, textsL_len, HTL.out, HSL.out]
    exact Nat.le_refl _
   have HF := aM' hful
   rw [HDL.out]
   clear hdl hful
   go_wp2
   go_ret
   refine ⟨_, rfl, ?_, HS.out.b⟩
   rw [← HF.out, HDL.out]
   have h := HS.out.r
   rw [HDL.out] at h
   exact h
end Go.Proofs.YtfcodmdckcihmaaDoor.P
namespace Go.Proofs.YtfcodmdckcihmaaDoor.P
open Go.RowKit Go.Proofs.YtfcodmdckcihmaaDoorW.PrintWords Go.Proofs.YtfcodmdckcihmaaDoorW.PrintLast Go.Proofs.YtfcodmdckcihmaaDoorW.PrintMore
set_option linter.unusedVariables false
set_option linter.unusedSimpArgs false
set_option linter.unnecessarySimpa false
def eqN (a b : SNode) : Bool := a.f0.toList == b.f0.toList && (a.f1.f0 == b.f1.f0 && a.f1.f1 == b.f1.f1)
theorem eqN_refl (a : SNode) : eqN a a = true := by simp [eqN]
theorem eqN_not (a b : SNode) : (!(a.f0.toList == b.f0.toList) || ((!(a.f1.f0 == b.f1.f0) || (!(a.f1.f1 == b.f1.f1))))) = !eqN a b := by
 unfold eqN
 cases (a.f0.toList == b.f0.toList) <;> cases (a.f1.f0 == b.f1.f0) <;> cases (a.f1.f1 == b.f1.f1) <;> rfl
def sameL : List SNode → List SNode → Bool
 | [], [] => true
 | a :: l, b :: m => eqN a b && sameL l m
 | _, _ => false
theorem sameL_refl : ∀ l, sameL l l = true
 | [] => rfl
 | a :: l => by rw [sameL, eqN_refl, sameL_refl l]; rfl
theorem sameL_len : ∀ l m : List SNode, l.length ≠ m.length → sameL l m = false
 | [], [], h => absurd rfl h
 | [], _ :: _, _ => rfl
 | _ :: _, [], _ => rfl
 | a :: l, b :: m, h => by rw [sameL, sameL_len l m (by simpa using h)]; simp
theorem sameL_drop (l m : List SNode) (i : Nat) (h : i < l.length) (h' : i < m.length) : sameL (l.drop i) (m.drop i) = (eqN l[i] m[i] && sameL (l.drop (i + 1)) (m.drop (i + 1))) := by
 rw [List.drop_eq_getElem_cons h, List.drop_eq_getElem_cons h', sameL]
end Go.Proofs.YtfcodmdckcihmaaDoor.P
namespace Go.Proofs.YtfcodmdckcihmaaDoor.P
open Go.RowKit Go.Proofs.YtfcodmdckcihmaaDoorW.PrintWords Go.Proofs.YtfcodmdckcihmaaDoorW.PrintLast Go.Proofs.YtfcodmdckcihmaaDoorW.PrintMore
set_option linter.unusedVariables false
set_option linter.unusedSimpArgs false
set_option linter.unnecessarySimpa false
theorem equal_loop (l m : List SNode) (hl : l.length ≤ 9223372036854775807) (hm : l.length = m.length) : ∀ d i : Nat, i + d = l.length → Ev (fun k => slices_Equal_Node.l0 k l m (l.length : Int) (i : Int)) (sameL (l.drop i) (m.drop i)) := by
 intro d
 induction d with
 | zero =>
  intro i hi
  refine Ev.step (f := fun _ => some true) (fun k => ?_) (ev_eq (Ev.now true) ?_)
  ·
   rw [slices_Equal_Node.l0, if_neg (by omega)]
  ·
   rw [List.drop_of_length_le (by omega), List.drop_of_length_le (by omega)]; rfl
 | succ d ih =>
  intro i hi
  have h1 : i < l.length := by omega
  have h2 : i < m.length := by omega
  rw [sameL_drop l m i h1 h2]
  cases hb : eqN l[i] m[i] with
  | false =>
   refine Ev.step (f := fun _ => some false) (fun k => ?_) (ev_eq (Ev.now false) (by simp))
   rw [slices_Equal_Node.l0, if_pos (by omega), if_pos (by omega), if_pos (by omega), if_pos (by omega), rdNode_nat l i h1, rdNode_nat m i h2, eqN_not, hb, if_pos (by rfl)]
  | true =>
   refine Ev.step (f := fun k => slices_Equal_Node.l0 k l m (l.length : Int) ((i + 1 : Nat) : Int)) (fun k => ?_) (ev_eq (ih (i + 1) (by omega)) (by simp))
   rw [slices_Equal_Node.l0, if_pos (by omega), if_pos (by omega), if_pos (by omega), if_pos (by omega), rdNode_nat l i h1, rdNode_nat m i h2, eqN_not, hb, if_neg (by simp), wrap64_id (by omega) (by omega)]; rfl
theorem equalN_ev (l m : List SNode) (hl : l.length ≤ 9223372036854775807) : Ev (fun k => slices_Equal_Node.f k l m) (sameL l m) := by
 unfold slices_Equal_Node.f
 by_cases h : l.length = m.length
 ·
  refine Ev.congr (fun k => by rw [if_pos (by omega)]; rfl) (ev_eq (equal_loop l m hl h l.length 0 (by omega)) (by simp))
 ·
  exact Ev.some_ (fun k => by rw [if_neg (by omega), sameL_len l m h])
def eqLf (a b : SLeaf) : Bool := a.f0 == b.f0 && (a.f1.toList == b.f1.toList && (a.f2.toList == b.f2.toList && ((a.f3.f0 == b.f3.f0 && (a.f3.f1 == b.f3.f1)))))
theorem eqLf_refl (a : SLeaf) : eqLf a a = true := by simp [eqLf]
def sameE (a b : SEntry) : Bool := eqLf a.f0 b.f0 && (a.f1.f0 == b.f1.f0 && sameL a.f1.f1 b.f1.f1)
theorem sameE_refl (a : SEntry) : sameE a a = true := by simp [sameE, eqLf_refl, sameL_refl]
theorem proofSame_ev (a b : SEntry) (hl : a.f1.f1.length ≤ 9223372036854775807) : Ev (fun k => proof_Same.f k a.f0.f0 a.f0.f1 a.f0.f2 a.f0.f3.f0 a.f0.f3.f1 a.f1.f0 a.f1.f1 b.f0.f0 b.f0.f1 b.f0.f2 b.f0.f3.f0 b.f0.f3.f1 b.f1.f0 b.f1.f1) (sameE a b) := by
 unfold proof_Same.f sameE
 cases h : eqLf a.f0 b.f0 with
 | false => exact Ev.some_ (fun k => by rw [if_neg (by show ¬ eqLf a.f0 b.f0 = true; rw [h]; decide)]; rfl)
 | true =>
  unfold eqLf at h
  by_cases hp : a.f1.f0 = b.f1.f0
  ·
   refine Ev.congr (fun k => by rw [if_pos h, if_pos hp]) ?_
   refine ev_eq (Ev.bind (equalN_ev a.f1.f1 b.f1.f1 hl) (Ev.now _)) ?_
   simp [hp]
  ·
   exact Ev.some_ (fun k => by rw [if_pos h, if_neg hp]; simp [hp])
end Go.Proofs.YtfcodmdckcihmaaDoor.P
namespace Go.Proofs.YtfcodmdckcihmaaDoor.P
open Go.RowKit Go.Proofs.YtfcodmdckcihmaaDoorW.PrintWords Go.Proofs.YtfcodmdckcihmaaDoorW.PrintLast Go.Proofs.YtfcodmdckcihmaaDoorW.PrintMore
set_option linter.unusedVariables false
set_option linter.unusedSimpArgs false
set_option linter.unnecessarySimpa false
abbrev EntR := SEntry × Option Addr × Nat
def cellsE : List EntR → List Value
 | [] => []
 | x :: l => .bool x.1.f0.f0 :: .string x.1.f0.f1 :: .string x.1.f0.f2 :: .int .u64 x.1.f0.f3.f0 :: .int .u64 x.1.f0.f3.f1 :: .int .u64 x.1.f1.f0 :: .slice x.2.1 x.1.f1.f1.length x.2.2 :: cellsE l
def EntC (w : World) (x : EntR) : Prop := x.1.f1.f1.length ≤ x.2.2 ∧ Kd.C kNode w x.2.1 x.1.f1.f1.length x.1.f1.f1
theorem EntC.below {w w' : World} {x : EntR} (h : EntC w x) (hb : Below w.heap.size w w') : EntC w' x := ⟨h.1, Kd.C_below h.2 hb⟩
theorem own_nodes {w : World} {base n cap : Nat} {A : Option Addr} {xs : List SNode} (h : w.ownsRow base 46 3 (.slice A n cap) n (cellsN xs)) (hx : xs.length = n) : n ≤ cap ∧ Kd.C kNode w A n xs := by
 cases n with
 | zero =>
  obtain rfl := List.length_eq_zero_iff.1 hx
  exact ⟨Nat.zero_le _, rfl, by decide, fun h => absurd h (by decide)⟩
 | succ n =>
  obtain ⟨g, c, hv, -, -⟩ := h.form (by omega)
  cases hv
  have := ownNodes_C h
  exact ⟨this.2.1, this.2.2⟩
end Go.Proofs.YtfcodmdckcihmaaDoor.P
namespace Go.Proofs.YtfcodmdckcihmaaDoor.P
open Go.RowKit Go.Proofs.YtfcodmdckcihmaaDoorW.PrintWords Go.Proofs.YtfcodmdckcihmaaDoorW.PrintLast Go.Proofs.YtfcodmdckcihmaaDoorW.PrintMore
set_option linter.unusedVariables false
set_option linter.unusedSimpArgs false
set_option linter.unnecessarySimpa false
def entE (wd : Int) (ls : List SLeaf) (p m : Nat) : SEntry := ⟨ls.getD p leafZ, ⟨(p : Int), besL wd ls p m⟩⟩
theorem entE_leaf {wd : Int} {ls : List SLeaf} {p m : Nat} (hp : p < ls.length) : (entE wd ls p m).f0 = ls[p] := by
 show ls.getD p leafZ = _
 simp [List.getD_eq_getElem?_getD, hp]
def rootE (wd : Int) (ls : List SLeaf) (m : Nat) : SRoot := ⟨(topI (treeT wd ls)).f0, (topI (treeT wd ls)).f1, (m : Int)⟩
theorem may_of_node {w : Int} {x : SLeaf} (h : NodeK w (leafNodeI w x)) : mayLeafI x = true := by
 obtain ⟨h1, h2, h3⟩ := nodeOf_w h.of
 unfold leafNodeI at h3
 split at h3
 ·
  rename_i h4; exact h4.2
 ·
  have : ((ByteArray.size (⟨#[]⟩ : ByteArray) : Nat) : Int) = w := h3
  have e : ByteArray.size (⟨#[]⟩ : ByteArray) = 0 := rfl
  rw [e] at this
  omega
section
variable {wd : Int} {ls : List SLeaf} {m p : Nat}
theorem honest_climb (hn : NewOk wd ls) (hm : m = ls.length.log2) (hp : p < ls.length) (h63 : m ≤ 62) : climbE wd (entE wd ls p m) = ((topI (treeT wd ls)).f0, (topI (treeT wd ls)).f1.f0, (topI (treeT wd ls)).f1.f1, 0) := by
 unfold climbE
 rw [entE_leaf hp]
 exact besL_climb hn hm hp (by omega)
theorem honest_up (hn : NewOk wd ls) (hm : m = ls.length.log2) (hp : p < ls.length) (h63 : m ≤ 62) : UpOk wd (entE wd ls p m) := by
 refine ⟨?_, ?_, ?_⟩
 ·
  rw [entE_leaf hp]
  exact may_of_node (hn.k _ (List.mem_map_of_mem (List.getElem_mem hp)))
 ·
  show shapeN wd ((besL wd ls p m).length : Int) (p : Int) (besL wd ls p m) = 0
  rw [besL_len]
  exact (besL_shape hn hm hp h63).1
 ·
  rw [honest_climb hn hm hp h63]
theorem honest_okE (hn : NewOk wd ls) (hm : m = ls.length.log2) (hp : p < ls.length) (h10 : m ≤ 10) (hl : ls.length ≤ 1024) (hok : ∀ x ∈ ls, OkL x) : OkE (entE wd ls p m) := by
 have h := hok _ (List.getElem_mem hp)
 refine ⟨?_, ?_, ?_, ?_, ?_, ?_⟩
 ·
  rw [entE_leaf hp]; exact h.id
 ·
  rw [entE_leaf hp]; exact h.sa
 ·
  rw [entE_leaf hp]; exact h.ub
 ·
  show 0 ≤ (p : Int) ∧ (p : Int) < 18446744073709551616
  omega
 ·
  intro x hx
  exact (besL_k hn hm hp x hx).u
 ·
  show (besL wd ls p m).length ≤ _
  rw [besL_len]; omega
theorem top_k (hn : NewOk wd ls) : NodeK wd (topI (treeT wd ls)) := by
 have hl : (ls.map (leafNodeI wd)).length = 2 ^ ls.length.log2 := by rw [List.length_map]; exact hn.p
 rw [top_tree hn]
 exact treeV_k _ _ hl hn.k hn.t
theorem honest_check (hn : NewOk wd ls) (hm : m = ls.length.log2) (hp : p < ls.length) (h63 : m ≤ 62) : checkI (rootE wd ls m) (entE wd ls p m) = 0 := by
 have hw := (nodeOf_w (top_k hn).of).2.2
 have hc := honest_climb hn hm hp h63
 refine (checkI_iff _ _).2 ?_
 have e : ((rootE wd ls m).f0.size : Int) = wd := hw
 rw [e, hc]
 exact ⟨honest_up hn hm hp h63, rfl, rfl, rfl, by show ((besL wd ls p m).length : Int) = (m : Int); rw [besL_len]⟩
end
end Go.Proofs.YtfcodmdckcihmaaDoor.P
namespace Go.Proofs.YtfcodmdckcihmaaDoor.P
open Go.RowKit Go.Proofs.YtfcodmdckcihmaaDoorW.PrintWords Go.Proofs.YtfcodmdckcihmaaDoorW.PrintLast Go.Proofs.YtfcodmdckcihmaaDoorW.PrintMore
set_option linter.unusedVariables false
set_option linter.unusedSimpArgs false
set_option linter.unnecessarySimpa false
attribute [local go_sem] sel_true
def entsL (wd : Int) (ls : List SLeaf) (m : Nat) : List SEntry := (List.range ls.length).map fun p => entE wd ls p m
def OwnE (W : World) (x : EntR) : Prop := ∃ b, W.ownsRow b 46 3 (.slice x.2.1 x.1.f1.f1.length x.2.2) x.1.f1.f1.length (cellsN x.1.f1.f1)
theorem OwnE.below {W W' : World} {x : EntR} (h : OwnE W x) (hb : Below W.heap.size W W') : OwnE W' x := by
 obtain ⟨b, h⟩ := h
 exact ⟨b, ownB h hb⟩
theorem OwnE.grown {W W' : World} {base i : Nat} {v : Value} {cs : List Value} {x : EntR} (h : OwnE W x) (ho : W.ownsRow base 70 7 v i cs) (hg : W.grownBy W' v.ownBlock) : OwnE W' x := by
 obtain ⟨b, h⟩ := h
 refine ⟨b, ownAny_keep h (fun g hg2 => ?_)⟩
 obtain ⟨c1, h1⟩ := own_cells h hg2
 refine hg.block g (blk_lt h1) (fun e => ?_)
 obtain ⟨c2, h2⟩ := own_cells ho e.symm
 rw [h1] at h2
 simp only [Option.some.injEq, Obj.cells.injEq] at h2
 exact absurd h2.2.1 (by decide)
structure AlS (base : Nat) (wd : Int) (ls : List SLeaf) (m i : Nat) (v : Value) (W : World) : Prop where
 e : ∃ xs : List EntR, xs.map Prod.fst = (entsL wd ls m).take i ∧ W.ownsRow base 70 7 v i (cellsE xs) ∧ ∀ x ∈ xs, OwnE W x
theorem AlS.below {base : Nat} {wd : Int} {ls : List SLeaf} {m i : Nat} {v : Value} {W W' : World} (h : AlS base wd ls m i v W) (hb : Below W.heap.size W W') : AlS base wd ls m i v W' := by
 obtain ⟨xs, h1, h2, h3⟩ := h.e
 exact ⟨xs, h1, ownB h2 hb, fun x hx => (h3 x hx).below hb⟩
theorem AlS.form {base : Nat} {wd : Int} {ls : List SLeaf} {m i : Nat} {v : Value} {W : World} (h : AlS base wd ls m i v W) : ∃ A c, v = .slice A i c := by
 obtain ⟨xs, h1, h2, h3⟩ := h.e
 rcases h2.2 with ⟨h, h0⟩ | ⟨g, cap, cur, h, _⟩
 ·
  exact ⟨none, 0, by rw [h, h0]⟩
 ·
  exact ⟨_, _, h⟩
end Go.Proofs.YtfcodmdckcihmaaDoor.P
namespace Go.Proofs.YtfcodmdckcihmaaDoor.P
open Go.RowKit Go.Proofs.YtfcodmdckcihmaaDoorW.PrintWords Go.Proofs.YtfcodmdckcihmaaDoorW.PrintLast Go.Proofs.YtfcodmdckcihmaaDoorW.PrintMore
set_option linter.unusedVariables false
set_option linter.unusedSimpArgs false
set_option linter.unnecessarySimpa false
attribute [local go_sem] sel_true
abbrev askA (r : SRoot) (e : SEntry) (A : Option Addr) (c : Nat) : Array Value := #[.string r.f0, .int .u64 r.f1.f0, .int .u64 r.f1.f1, .int .i64 r.f2, .bool e.f0.f0, .string e.f0.f1, .string e.f0.f2, .int .u64 e.f0.f3.f0, .int .u64 e.f0.f3.f1, .int .u64 e.f1.f0, .slice A e.f1.f1.length c]
structure AskS (w w' : World) (r : SRoot) (e : SEntry) (A : Option Addr) (c : Nat) : Prop where
 hB : Below w.heap.size w w'
 h0 : w'.heap[w.heap.size]? = some (.cells (askA r e A c) 146 (0, 0))
theorem AskS.of {w w' : World} {r : SRoot} {e : SEntry} {A : Option Addr} {c : Nat} {C : Prop} (h : C ∧ AskS w w' r e A c) : AskS w w' r e A c := h.2
theorem AskS.below {w w' W : World} {r : SRoot} {e : SEntry} {A : Option Addr} {c : Nat} (h : AskS w w' r e A c) (hb : Below w'.heap.size w' W) : AskS w W r e A c := ⟨h.hB.trans (hb.mono h.hB.size), blk_below h.h0 hb⟩
theorem AskS.drew {w w' : World} {r : SRoot} {e : SEntry} {A : Option Addr} {c : Nat} (h : AskS w w' r e A c) : AskS w w'.drew r e A c := h.below (below_drew (Below.refl _ _))
theorem AskS.cells {w w' : World} {r : SRoot} {e : SEntry} {A : Option Addr} {c : Nat} (h : AskS w w' r e A c) : (w'.cell? ⟨w.heap.size, 0, none⟩ = some (.string r.f0) ∧ w'.cell? ⟨w.heap.size, 1, none⟩ = some (.int .u64 r.f1.f0) ∧ w'.cell? ⟨w.heap.size, 2, none⟩ = some (.int .u64 r.f1.f1) ∧ w'.cell? ⟨w.heap.size, 3, none⟩ = some (.int .i64 r.f2) ∧ w'.cell? ⟨w.heap.size, 4, none⟩ = some (.bool e.f0.f0) ∧ w'.cell? ⟨w.heap.size, 5, none⟩ = some (.string e.f0.f1) ∧ w'.cell? ⟨w.heap.size, 6, none⟩ = some (.string e.f0.f2) ∧ w'.cell? ⟨w.heap.size, 7, none⟩ = some (.int .u64 e.f0.f3.f0) ∧ w'.cell? ⟨w.heap.size, 8, none⟩ = some (.int .u64 e.f0.f3.f1) ∧ w'.cell? ⟨w.heap.size, 9, none⟩ = some (.int .u64 e.f1.f0) ∧ w'.cell? ⟨w.heap.size, 10, none⟩ = some (.slice A e.f1.f1.length c)) ∧ AskS w w' r e A c :=
 ⟨⟨blk_cell h.h0 0, blk_cell h.h0 1, blk_cell h.h0 2, blk_cell h.h0 3, blk_cell h.h0 4, blk_cell h.h0 5, blk_cell h.h0 6, blk_cell h.h0 7, blk_cell h.h0 8, blk_cell h.h0 9, blk_cell h.h0 10⟩, h⟩
theorem AskS.put3 {w W : World} {r : SRoot} {e : SEntry} {A : Option Addr} {c : Nat} (h : AskS w W r e A c) {g : Nat} (hg : w.heap.size < g) (x y z : Value) : AskS w (((W.setCell ⟨g, 0, none⟩ x).setCell ⟨g, 1, none⟩ y).setCell ⟨g, 2, none⟩ z) r e A c :=
 ⟨below_set (below_set (below_set h.hB (by (try dsimp only); omega)) (by (try dsimp only); omega)) (by (try dsimp only); omega), far3 h.h0 (by omega) _ _ _⟩
theorem LaidT.one {w : World} (h : LaidT w) : Laid w := h.1
set_option maxRecDepth 100000 in
set_option maxHeartbeats 2000000 in
theorem askClimb.calls (r : SRoot) (e : SEntry) (A : Option Addr) (c : Nat) (w : World) (hK : LaidT w) (hr : Kd.C kNode w A e.f1.f1.length e.f1.f1) (hc : e.f1.f1.length ≤ c) (he : OkE e) (res : Int) (hres : (if (climbE (r.f0.size : Int) e).2.2.2 = 0 then (if (climbE (r.f0.size : Int) e).1.toList = r.f0.toList ∧ (climbE (r.f0.size : Int) e).2.1 = r.f1.f0 ∧ (climbE (r.f0.size : Int) e).2.2.1 = r.f1.f1 then 0 else 160) else (climbE (r.f0.size : Int) e).2.2.2) = res) :
  Calls Tryd.prog 86 #[.agg (askA r e A c)] w fun x w' => x = .returned (.int .i64 res) ∧ Below w.heap.size w w' := by
 have HK := aM' hK
 have HR := aM' hr
 have HC := aM' hc
 have HE := aM' he
 obtain ⟨kl, hkl⟩ := tagLeafNode_ev (r.f0.size : Int) e.f0 he.id he.sa
 have HL := aM' (hkl kl (Nat.le_refl _))
 have HCl := aM' (nodeClimb_eq (r.f0.size : Int) e he)
 clear hK hr hc he hkl
 generalize hcl : climbE (r.f0.size : Int) e = cl at HCl hres
 obtain ⟨c1, c2, c3, c4⟩ := cl
 clear hcl
 have HRES := aM' hres
 clear hres
 generalize hln : leafNodeI (r.f0.size : Int) e.f0 = ln at HL HCl
 clear hln
 dsimp only at HRES
 go_enter Tryd.func86, Tryd.ntmps86
 go_wp2
 have HS := aM' (show AskS w (w.alloc (.cells (askA r e A c) 146)) r e A c from ⟨below_alloc (Below.refl _ _) _, blk_new w _⟩)
 refine region_inv (fun l a W => ∃ γ : Nat, a = ({ tmps := #[.agg (askA r e A c), .pointer (some ⟨w.heap.size, 0, none⟩), .int .i64 0, sel (l 24) (.pointer (some ⟨γ, 0, none⟩)) (undef), sel (l 26) (.int .i64 c4) (undef), sel (l 21) (.tuple #[.agg #[.string c1, .int .u64 c2, .int .u64 c3], .int .i64 c4]) (undef), sel (l 0) (.pointer (some ⟨w.heap.size, 0, none⟩)) (undef), sel (l 1) (.pointer (some ⟨w.heap.size, 0, none⟩)) (undef), sel (l 2) (.string r.f0) (undef), sel (l 3) (.int .i64 (r.f0.size : Int)) (undef), sel (l 4) (.pointer (some ⟨w.heap.size, 0, none⟩)) (undef), sel (l 5) (.pointer (some ⟨w.heap.size, 0, none⟩)) (undef), sel (l 6) (.string r.f0) (undef), sel (l 7) (.int .i64 (r.f0.size : Int)) (undef), sel (l 8) (.pointer (some ⟨w.heap.size, 4, none⟩)) (undef), sel (l 9) (.pointer (some ⟨w.heap.size, 4, none⟩)) (undef), sel (l 10) (.agg #[.bool e.f0.f0, .string e.f0.f1, .string e.f0.f2, .int .u64 e.f0.f3.f0, .int .u64 e.f0.f3.f1]) (undef), sel (l 11) (.agg #[.string ln.f0, .int .u64 ln.f1.f0, .int .u64 ln.f1.f1]) (undef), sel (l 12) (.pointer (some ⟨w.heap.size, 4, none⟩)) (undef), sel (l 13) (.pointer (some ⟨w.heap.size, 9, none⟩)) (undef), sel (l 14) (.pointer (some ⟨w.heap.size, 9, none⟩)) (undef), sel (l 15) (.int .u64 e.f1.f0) (undef), sel (l 16) (.pointer (some ⟨w.heap.size, 4, none⟩)) (undef), sel (l 17) (.pointer (some ⟨w.heap.size, 9, none⟩)) (undef), sel (l 18) (.pointer (some ⟨w.heap.size, 10, none⟩)) (undef), sel (l 19) (.slice A e.f1.f1.length c) (undef), sel (l 20) (.tuple #[.agg #[.string c1, .int .u64 c2, .int .u64 c3], .int .i64 c4]) (undef), sel (l 22) (.agg #[.string c1, .int .u64 c2, .int .u64 c3]) (undef), sel (l 23) (.int .i64 c4) (undef), undef, undef, undef, undef, undef, undef, undef, undef, undef, undef, undef, undef, undef, undef, undef, undef, undef, undef, undef], defers := [] } : Act) ∧ (AskS w W r e A c ∧ (l 25 = true → l 24 = true) ∧ (l 24 = true → w.heap.size < γ ∧ W.heap[γ]? = some (.cells (if l 25 = true then #[.string c1, .int .u64 c2, .int .u64 c3] else #[.string ⟨#[]⟩, .int .u64 0, .int .u64 0]) 46 (0, 0))))) 27 rfl rfl (by kernel_rfl) ?h0 ?hend ?hstep
 case h0 => exact ⟨0, rfl, HS.out.drew, (fun h => by cases h), fun h => by cases h⟩
 case hstep =>
  refine rg_cons (rg_cons (rg_cons (rg_cons (rg_cons (rg_cons (rg_cons (rg_cons (rg_cons (rg_cons (rg_cons (rg_cons (rg_cons (rg_cons (rg_cons (rg_cons (rg_cons (rg_cons (rg_cons (rg_cons (rg_cons (rg_cons (rg_cons (rg_cons (rg_cons (rg_cons (rg_cons (rg_nil) ?s0) ?s1) ?s2) ?s3) ?s4) ?s5) ?s6) ?s7) ?s8) ?s9) ?s10) ?s11) ?s12) ?s13) ?s14) ?s15) ?s16) ?s17) ?s18) ?s19) ?s20) ?s21) ?s22) ?s23) ?s24) ?s25) ?s26
  case s0 =>
   refine rg_step rfl ?_
   rintro l a W ⟨γ, rfl, hI⟩ hl hd
   clear hd
   refine rg_val (v := .pointer (some ⟨w.heap.size, 0, none⟩)) (w' := W) rfl (by go_simp) ?_
   refine ⟨γ, ?_, ?_⟩
   ·
    simp only [Act.put, List.setIfInBounds_toArray, List.set_cons_zero, List.set_cons_succ]; rfl
   ·
    exact hI
  case s1 =>
   refine rg_step rfl ?_
   rintro l a W ⟨γ, rfl, hI⟩ hl hd
   have d0 := hd 0 (by decide)
   clear hd
   refine rg_val (v := .pointer (some ⟨w.heap.size, 0, none⟩)) (w' := W) rfl (by go_simp) ?_
   refine ⟨γ, ?_, ?_⟩
   ·
    simp only [Act.put, List.setIfInBounds_toArray, List.set_cons_zero, List.set_cons_succ]; rfl
   ·
    exact hI
  case s2 =>
   refine rg_step rfl ?_
   rintro l a W ⟨γ, rfl, hI⟩ hl hd
   have d1 := hd 1 (by decide)
   clear hd
   have x0 := blk_cell hI.1.h0 0
   simp at x0
   refine rg_val (v := .string r.f0) (w' := W) rfl (by go_simp) ?_
   refine ⟨γ, ?_, ?_⟩
   ·
    simp only [Act.put, List.setIfInBounds_toArray, List.set_cons_zero, List.set_cons_succ]; rfl
   ·
    exact hI
  case s3 =>
   refine rg_step rfl ?_
   rintro l a W ⟨γ, rfl, hI⟩ hl hd
   have d2 := hd 2 (by decide)
   clear hd
   refine rg_val (v := .int .i64 (r.f0.size : Int)) (w' := W) rfl (by go_simp) ?_
   refine ⟨γ, ?_, ?_⟩
   ·
    simp only [Act.put, List.setIfInBounds_toArray, List.set_cons_zero, List.set_cons_succ]; rfl
   ·
    exact hI
  case s4 =>
   refine rg_step rfl ?_
   rintro l a W ⟨γ, rfl, hI⟩ hl hd
   clear hd
   refine rg_val (v := .pointer (some ⟨w.heap.size, 0, none⟩)) (w' := W) rfl (by go_simp) ?_
   refine ⟨γ, ?_, ?_⟩
   ·
    simp only [Act.put, List.setIfInBounds_toArray, List.set_cons_zero, List.set_cons_succ]; rfl
   ·
    exact hI
  case s5 =>
   refine rg_step rfl ?_
   rintro l a W ⟨γ, rfl, hI⟩ hl hd
   have d4 := hd 4 (by decide)
   clear hd
   refine rg_val (v := .pointer (some ⟨w.heap.size, 0, none⟩)) (w' := W) rfl (by go_simp) ?_
   refine ⟨γ, ?_, ?_⟩
   ·
    simp only [Act.put, List.setIfInBounds_toArray, List.set_cons_zero, List.set_cons_succ]; rfl
   ·
    exact hI
  case s6 =>
   refine rg_step rfl ?_
   rintro l a W ⟨γ, rfl, hI⟩ hl hd
   have d5 := hd 5 (by decide)
   clear hd
   have x0 := blk_cell hI.1.h0 0
   simp at x0
   refine rg_val (v := .string r.f0) (w' := W) rfl (by go_simp) ?_
   refine ⟨γ, ?_, ?_⟩
   ·
    simp only [Act.put, List.setIfInBounds_toArray, List.set_cons_zero, List.set_cons_succ]; rfl
   ·
    exact hI
  case s7 =>
   refine rg_step rfl ?_
   rintro l a W ⟨γ, rfl, hI⟩ hl hd
   have d6 := hd 6 (by decide)
   clear hd
   refine rg_val (v := .int .i64 (r.f0.size : Int)) (w' := W) rfl (by go_simp) ?_
   refine ⟨γ, ?_, ?_⟩
   ·
    simp only [Act.put, List.setIfInBounds_toArray, List.set_cons_zero, List.set_cons_succ]; rfl
   ·
    exact hI
  case s8 =>
   refine rg_step rfl ?_
   rintro l a W ⟨γ, rfl, hI⟩ hl hd
   clear hd
   refine rg_val (v := .pointer (some ⟨w.heap.size, 4, none⟩)) (w' := W) rfl (by go_simp) ?_
   refine ⟨γ, ?_, ?_⟩
   ·
    simp only [Act.put, List.setIfInBounds_toArray, List.set_cons_zero, List.set_cons_succ]; rfl
   ·
    exact hI
  case s9 =>
   refine rg_step rfl ?_
   rintro l a W ⟨γ, rfl, hI⟩ hl hd
   have d8 := hd 8 (by decide)
   clear hd
   refine rg_val (v := .pointer (some ⟨w.heap.size, 4, none⟩)) (w' := W) rfl (by go_simp) ?_
   refine ⟨γ, ?_, ?_⟩
   ·
    simp only [Act.put, List.setIfInBounds_toArray, List.set_cons_zero, List.set_cons_succ]; rfl
   ·
    exact hI
  case s10 =>
   refine rg_step rfl ?_
   rintro l a W ⟨γ, rfl, hI⟩ hl hd
   have d9 := hd 9 (by decide)
   clear hd
   have x4 := blk_cell hI.1.h0 4
   have x5 := blk_cell hI.1.h0 5
   have x6 := blk_cell hI.1.h0 6
   have x7 := blk_cell hI.1.h0 7
   have x8 := blk_cell hI.1.h0 8
   simp at x4 x5 x6 x7 x8
   refine rg_val (v := .agg #[.bool e.f0.f0, .string e.f0.f1, .string e.f0.f2, .int .u64 e.f0.f3.f0, .int .u64 e.f0.f3.f1]) (w' := W) rfl (by go_simp) ?_
   refine ⟨γ, ?_, ?_⟩
   ·
    simp only [Act.put, List.setIfInBounds_toArray, List.set_cons_zero, List.set_cons_succ]; rfl
   ·
    exact hI
  case s11 =>
   refine rg_step rfl ?_
   rintro l a W ⟨γ, rfl, hI⟩ hl hd
   have d7 := hd 7 (by decide)
   have d10 := hd 10 (by decide)
   clear hd
   refine rg_call rfl (by go_simp; exact ⟨rfl, rfl⟩) ?_
   refine (tag_LeafNode.calls kl _ _ _ _ _ _ _ _ _ _ (HK.out.below hI.1.hB) HL.out).mono ?_
   rintro x W' ⟨rfl, hb⟩
   refine ⟨_, rfl, γ, ?_, ?_⟩
   ·
    simp only [Act.put, List.setIfInBounds_toArray, List.set_cons_zero, List.set_cons_succ]; rfl
   ·
    exact ⟨hI.1.below hb, hI.2.1, fun h => ⟨(hI.2.2 h).1, blk_below (hI.2.2 h).2 hb⟩⟩
  case s12 =>
   refine rg_step rfl ?_
   rintro l a W ⟨γ, rfl, hI⟩ hl hd
   clear hd
   refine rg_val (v := .pointer (some ⟨w.heap.size, 4, none⟩)) (w' := W) rfl (by go_simp) ?_
   refine ⟨γ, ?_, ?_⟩
   ·
    simp only [Act.put, List.setIfInBounds_toArray, List.set_cons_zero, List.set_cons_succ]; rfl
   ·
    exact hI
  case s13 =>
   refine rg_step rfl ?_
   rintro l a W ⟨γ, rfl, hI⟩ hl hd
   have d12 := hd 12 (by decide)
   clear hd
   refine rg_val (v := .pointer (some ⟨w.heap.size, 9, none⟩)) (w' := W) rfl (by go_simp) ?_
   refine ⟨γ, ?_, ?_⟩
   ·
    simp only [Act.put, List.setIfInBounds_toArray, List.set_cons_zero, List.set_cons_succ]; rfl
   ·
    exact hI
  case s14 =>
   refine rg_step rfl ?_
   rintro l a W ⟨γ, rfl, hI⟩ hl hd
   have d13 := hd 13 (by decide)
   clear hd
   refine rg_val (v := .pointer (some ⟨w.heap.size, 9, none⟩)) (w' := W) rfl (by go_simp) ?_
   refine ⟨γ, ?_, ?_⟩
   ·
    simp only [Act.put, List.setIfInBounds_toArray, List.set_cons_zero, List.set_cons_succ]; rfl
   ·
    exact hI
  case s15 =>
   refine rg_step rfl ?_
   rintro l a W ⟨γ, rfl, hI⟩ hl hd
   have d14 := hd 14 (by decide)
   clear hd
   have x9 := blk_cell hI.1.h0 9
   simp at x9
   refine rg_val (v := .int .u64 e.f1.f0) (w' := W) rfl (by go_simp) ?_
   refine ⟨γ, ?_, ?_⟩
   ·
    simp only [Act.put, List.setIfInBounds_toArray, List.set_cons_zero, List.set_cons_succ]; rfl
   ·
    exact hI
  case s16 =>
   refine rg_step rfl ?_
   rintro l a W ⟨γ, rfl, hI⟩ hl hd
   clear hd
   refine rg_val (v := .pointer (some ⟨w.heap.size, 4, none⟩)) (w' := W) rfl (by go_simp) ?_
   refine ⟨γ, ?_, ?_⟩
   ·
    simp only [Act.put, List.setIfInBounds_toArray, List.set_cons_zero, List.set_cons_succ]; rfl
   ·
    exact hI
  case s17 =>
   refine rg_step rfl ?_
   rintro l a W ⟨γ, rfl, hI⟩ hl hd
   have d16 := hd 16 (by decide)
   clear hd
   refine rg_val (v := .pointer (some ⟨w.heap.size, 9, none⟩)) (w' := W) rfl (by go_simp) ?_
   refine ⟨γ, ?_, ?_⟩
   ·
    simp only [Act.put, List.setIfInBounds_toArray, List.set_cons_zero, List.set_cons_succ]; rfl
   ·
    exact hI
  case s18 =>
   refine rg_step rfl ?_
   rintro l a W ⟨γ, rfl, hI⟩ hl hd
   have d17 := hd 17 (by decide)
   clear hd
   refine rg_val (v := .pointer (some ⟨w.heap.size, 10, none⟩)) (w' := W) rfl (by go_simp) ?_
   refine ⟨γ, ?_, ?_⟩
   ·
    simp only [Act.put, List.setIfInBounds_toArray, List.set_cons_zero, List.set_cons_succ]; rfl
   ·
    exact hI
  case s19 =>
   refine rg_step rfl ?_
   rintro l a W ⟨γ, rfl, hI⟩ hl hd
   have d18 := hd 18 (by decide)
   clear hd
   have x10 := blk_cell hI.1.h0 10
   simp at x10
   refine rg_val (v := .slice A e.f1.f1.length c) (w' := W) rfl (by go_simp) ?_
   refine ⟨γ, ?_, ?_⟩
   ·
    simp only [Act.put, List.setIfInBounds_toArray, List.set_cons_zero, List.set_cons_succ]; rfl
   ·
    exact hI
  case s20 =>
   refine rg_step rfl ?_
   rintro l a W ⟨γ, rfl, hI⟩ hl hd
   have d3 := hd 3 (by decide)
   have d11 := hd 11 (by decide)
   have d15 := hd 15 (by decide)
   have d19 := hd 19 (by decide)
   clear hd
   refine rg_call rfl (by go_simp; exact ⟨rfl, rfl⟩) ?_
   refine (node_Climb.calls _ _ _ _ _ A c e.f1.f1 _ _ _ _ _ ((LaidT.one HK.out).below hI.1.hB) (Kd.C_below HR.out hI.1.hB) HC.out HCl.out).mono ?_
   rintro x W' ⟨rfl, hb⟩
   refine ⟨_, rfl, γ, ?_, ?_⟩
   ·
    simp only [Act.put, List.setIfInBounds_toArray, List.set_cons_zero, List.set_cons_succ]; rfl
   ·
    exact ⟨hI.1.below hb, hI.2.1, fun h => ⟨(hI.2.2 h).1, blk_below (hI.2.2 h).2 hb⟩⟩
  case s21 =>
   refine rg_step rfl ?_
   rintro l a W ⟨γ, rfl, hI⟩ hl hd
   have d20 := hd 20 (by decide)
   clear hd
   refine rg_val (v := .tuple #[.agg #[.string c1, .int .u64 c2, .int .u64 c3], .int .i64 c4]) (w' := W) rfl (by go_simp) ?_
   refine ⟨γ, ?_, ?_⟩
   ·
    simp only [Act.put, List.setIfInBounds_toArray, List.set_cons_zero, List.set_cons_succ]; rfl
   ·
    exact hI
  case s22 =>
   refine rg_step rfl ?_
   rintro l a W ⟨γ, rfl, hI⟩ hl hd
   have d21 := hd 21 (by decide)
   clear hd
   refine rg_val (v := .agg #[.string c1, .int .u64 c2, .int .u64 c3]) (w' := W) rfl (by go_simp) ?_
   refine ⟨γ, ?_, ?_⟩
   ·
    simp only [Act.put, List.setIfInBounds_toArray, List.set_cons_zero, List.set_cons_succ]; rfl
   ·
    exact hI
  case s23 =>
   refine rg_step rfl ?_
   rintro l a W ⟨γ, rfl, hI⟩ hl hd
   have d21 := hd 21 (by decide)
   clear hd
   refine rg_val (v := .int .i64 c4) (w' := W) rfl (by go_simp) ?_
   refine ⟨γ, ?_, ?_⟩
   ·
    simp only [Act.put, List.setIfInBounds_toArray, List.set_cons_zero, List.set_cons_succ]; rfl
   ·
    exact hI
  case s24 =>
   refine rg_step rfl ?_
   rintro l a W ⟨γ, rfl, hI⟩ hl hd
   clear hd
   refine rg_val (v := .pointer (some ⟨W.heap.size, 0, none⟩)) (w' := W.alloc (.cells #[.string ⟨#[]⟩, .int .u64 0, .int .u64 0] 46)) rfl (by go_simp) ?_
   refine ⟨W.heap.size, ?_, ?_⟩
   ·
    simp only [Act.put, List.setIfInBounds_toArray, List.set_cons_zero, List.set_cons_succ]; rfl
   ·
    exact ⟨hI.1.below (below_alloc (Below.refl _ _) _), fun _ => rfl, fun _ => ⟨blk_lt hI.1.h0, by rw [if_neg (show ¬ upd l 24 25 = true from fun h => by have h : l 25 = true := h; rw [hI.2.1 h] at hl; cases hl)]; exact blk_new W _⟩⟩
  case s25 =>
   refine rg_step rfl ?_
   rintro l a W ⟨γ, rfl, hI⟩ hl hd
   have d24 := hd 24 (by decide)
   have d22 := hd 22 (by decide)
   clear hd
   have hg := hI.2.2 d24
   rw [if_neg (by rw [hl]; decide)] at hg
   have y0 := blk_cell hg.2 0
   have y1 := blk_cell hg.2 1
   have y2 := blk_cell hg.2 2
   have yf := fun i => blk_frozen hg.2 i
   simp at y0 y1 y2
   refine rg_skip rfl (by go_simp; rfl) ?_
   refine ⟨γ, ?_, ?_⟩
   ·
    simp only [Act.put, List.setIfInBounds_toArray, List.set_cons_zero, List.set_cons_succ]; rfl
   ·
    exact ⟨hI.1.put3 hg.1 _ _ _, fun _ => d24, fun _ => ⟨hg.1, put3 (z := ⟨⟨#[]⟩, ⟨0, 0⟩⟩) hg.2 ⟨c1, ⟨c2, c3⟩⟩⟩⟩
  case s26 =>
   refine rg_step rfl ?_
   rintro l a W ⟨γ, rfl, hI⟩ hl hd
   have d23 := hd 23 (by decide)
   clear hd
   refine rg_val (v := .int .i64 c4) (w' := W) rfl (by go_simp) ?_
   refine ⟨γ, ?_, ?_⟩
   ·
    simp only [Act.put, List.setIfInBounds_toArray, List.set_cons_zero, List.set_cons_succ]; rfl
   ·
    exact hI
 case hend =>
  rintro l a W ⟨γ, rfl, hI⟩ hall
  have e0 := hall 0 (by decide)
  have e1 := hall 1 (by decide)
  have e2 := hall 2 (by decide)
  have e3 := hall 3 (by decide)
  have e4 := hall 4 (by decide)
  have e5 := hall 5 (by decide)
  have e6 := hall 6 (by decide)
  have e7 := hall 7 (by decide)
  have e8 := hall 8 (by decide)
  have e9 := hall 9 (by decide)
  have e10 := hall 10 (by decide)
  have e11 := hall 11 (by decide)
  have e12 := hall 12 (by decide)
  have e13 := hall 13 (by decide)
  have e14 := hall 14 (by decide)
  have e15 := hall 15 (by decide)
  have e16 := hall 16 (by decide)
  have e17 := hall 17 (by decide)
  have e18 := hall 18 (by decide)
  have e19 := hall 19 (by decide)
  have e20 := hall 20 (by decide)
  have e21 := hall 21 (by decide)
  have e22 := hall 22 (by decide)
  have e23 := hall 23 (by decide)
  have e24 := hall 24 (by decide)
  have e25 := hall 25 (by decide)
  have e26 := hall 26 (by decide)
  clear hall
  have hn := hI.2.2 e24
  rw [if_pos e25] at hn
  simp only [e0, e1, e2, e3, e4, e5, e6, e7, e8, e9, e10, e11, e12, e13, e14, e15, e16, e17, e18, e19, e20, e21, e22, e23, e24, e25, e26, sel_true]
  clear e0 e1 e2 e3 e4 e5 e6 e7 e8 e9 e10 e11 e12 e13 e14 e15 e16 e17 e18 e19 e20 e21 e22 e23 e24 e25 e26
  have HN := aM' hn
  have HI := aM' hI.1
  have z0 : W.cell? ⟨γ, 0, none⟩ = some (.string c1) := blk_cell hn.2 0
  have z1 : W.cell? ⟨γ, 1, none⟩ = some (.int .u64 c2) := blk_cell hn.2 1
  have z2 : W.cell? ⟨γ, 2, none⟩ = some (.int .u64 c3) := blk_cell hn.2 2
  have x0 : W.cell? ⟨w.heap.size, 0, none⟩ = some (.string r.f0) := blk_cell hI.1.h0 0
  have x1 : W.cell? ⟨w.heap.size, 1, none⟩ = some (.int .u64 r.f1.f0) := blk_cell hI.1.h0 1
  have x2 : W.cell? ⟨w.heap.size, 2, none⟩ = some (.int .u64 r.f1.f1) := blk_cell hI.1.h0 2
  clear hn hI
  have HRS := HRES
  clear HRES
  by_cases h4 : c4 = 0
  ·
   subst h4
   go_wp2
   all_goals
    go_ret
    exact ⟨congrArg (fun z => Ending.returned (.int .i64 z)) (Eq.trans (by simp [*]) HRS.out), HI.out.hB⟩
  ·
   have b1 : (c4 != 0) = true := by simp [h4]
   go_wp2
   go_ret
   exact ⟨congrArg (fun z => Ending.returned (.int .i64 z)) (Eq.trans (by rw [if_neg h4]) HRS.out), HI.out.hB⟩
end Go.Proofs.YtfcodmdckcihmaaDoor.P
namespace Go.Proofs.YtfcodmdckcihmaaDoor.P
open Go.RowKit Go.Proofs.YtfcodmdckcihmaaDoorW.PrintWords Go.Proofs.YtfcodmdckcihmaaDoorW.PrintLast Go.Proofs.YtfcodmdckcihmaaDoorW.PrintMore
set_option linter.unusedVariables false
set_option linter.unusedSimpArgs false
set_option linter.unnecessarySimpa false
attribute [local go_sem] sel_true
abbrev entU (e : SEntry) (A : Option Addr) (c : Nat) : Array Value := #[.bool e.f0.f0, .string e.f0.f1, .string e.f0.f2, .int .u64 e.f0.f3.f0, .int .u64 e.f0.f3.f1, .int .u64 e.f1.f0, .slice A e.f1.f1.length c]
abbrev rootA (r : SRoot) : Array Value := #[.string r.f0, .int .u64 r.f1.f0, .int .u64 r.f1.f1, .int .i64 r.f2]
structure UpS (w W : World) (e : SEntry) (A : Option Addr) (c : Nat) (r : SRoot) : Prop where
 hB : Below w.heap.size w W
 h0 : W.heap[w.heap.size]? = some (.cells (entU e A c) 70 (0, 0))
 h1 : W.heap[w.heap.size + 1]? = some (.cells (rootA r) 41 (0, 0))
theorem UpS.lt {w W : World} {e : SEntry} {A : Option Addr} {c : Nat} {r : SRoot} (h : UpS w W e A c r) : w.heap.size + 1 < W.heap.size := blk_lt h.h1
theorem UpS.below {w W W' : World} {e : SEntry} {A : Option Addr} {c : Nat} {r : SRoot} (h : UpS w W e A c r) (hb : Below W.heap.size W W') : UpS w W' e A c r := ⟨h.hB.trans (hb.mono h.hB.size), blk_below h.h0 hb, blk_below h.h1 hb⟩
theorem UpS.put3 {w W : World} {e : SEntry} {A : Option Addr} {c : Nat} {r : SRoot} (h : UpS w W e A c r) {g : Nat} (hg : w.heap.size + 1 < g) (x y z : Value) : UpS w (((W.setCell ⟨g, 0, none⟩ x).setCell ⟨g, 1, none⟩ y).setCell ⟨g, 2, none⟩ z) e A c r :=
 ⟨below_set (below_set (below_set h.hB (by (try dsimp only); omega)) (by (try dsimp only); omega)) (by (try dsimp only); omega), far3 h.h0 (by omega) _ _ _, far3 h.h1 (by omega) _ _ _⟩
theorem UpS.put {w W : World} {e : SEntry} {A : Option Addr} {c : Nat} {r : SRoot} (h : UpS w W e A c r) (x : SRoot) :
  UpS w ((((W.setCell ⟨w.heap.size + 1, 0, none⟩ (.string x.f0)).setCell ⟨w.heap.size + 1, 1, none⟩ (.int .u64 x.f1.f0)).setCell ⟨w.heap.size + 1, 2, none⟩ (.int .u64 x.f1.f1)).setCell ⟨w.heap.size + 1, 3, none⟩ (.int .i64 x.f2)) e A c x := by
 have a1 := blk_put (cs' := rootA ⟨x.f0, r.f1, r.f2⟩) h.h1 0 (.string x.f0) rfl
 have a2 := blk_put (cs' := rootA ⟨x.f0, ⟨x.f1.f0, r.f1.f1⟩, r.f2⟩) a1 1 (.int .u64 x.f1.f0) rfl
 have a3 := blk_put (cs' := rootA ⟨x.f0, x.f1, r.f2⟩) a2 2 (.int .u64 x.f1.f1) rfl
 have a4 := blk_put (cs' := rootA x) a3 3 (.int .i64 x.f2) rfl
 exact ⟨below_set (below_set (below_set (below_set h.hB (by (try dsimp only); omega)) (by (try dsimp only); omega)) (by (try dsimp only); omega)) (by (try dsimp only); omega), blk_far (far3 h.h0 (by omega) _ _ _) (by (try dsimp only); omega) _, a4⟩
theorem root_results {fn : Func} {p u : Nat} (hr : fn.results = #[.cell p 41, .tmp u]) (tmps : Array Value) (W : World) (g : Nat) (r : SRoot) (e : Value) (hp : tmps.getD p undef = .pointer (some ⟨g, 0, none⟩)) (hu : tmps.getD u undef = e) (hg : W.heap[g]? = some (.cells (rootA r) 41 (0, 0))) :
  (results fn tmps).run Tryd.prog W = .ok (.tuple #[.agg (rootA r), e]) W := by
 have hp' : tmps[p]?.getD undef = .pointer (some ⟨g, 0, none⟩) := by simpa using hp
 have hu' : tmps[u]?.getD undef = e := by simpa using hu
 have h1 := run_loadVar_row W g 41 41 (rootA r) (0, 0) _ hg Tryd.underlying41 rfl (by kernel_rfl)
 simp [results, hr, hp', hu', asAddr, h1]
abbrev upR (u : ByteArray × Int × Int × Int × Int) : SRoot := ⟨u.1, ⟨u.2.1, u.2.2.1⟩, u.2.2.2.1⟩
theorem askLeaf_eq (e : SEntry) (he : OkE e) (h : ByteArray) (a b c : Int) : verify_asked_leaf.f h a b c e.f0.f0 e.f0.f1 e.f0.f2 e.f0.f3.f0 e.f0.f3.f1 e.f1.f0 e.f1.f1 = some (if mayLeafI e.f0 = true then 0 else 130) := by
 unfold verify_asked_leaf.f
 rw [tagMayLeaf_eq e.f0 he.id]
 cases mayLeafI e.f0 <;> rfl
set_option maxRecDepth 100000 in
set_option maxHeartbeats 4000000 in
theorem verifyUp.calls (wd : Int) (e : SEntry) (A : Option Addr) (c : Nat) (w : World) (hK : LaidT w) (hr : Kd.C kNode w A e.f1.f1.length e.f1.f1) (hc : e.f1.f1.length ≤ c) (he : OkE e) :
  Calls Tryd.prog 82 #[.int .i64 wd, .agg (entU e A c)] w fun x w' => x = .returned (.tuple #[.agg (rootA (upR (upI wd e))), .int .i64 (upI wd e).2.2.2.2]) ∧ Below w.heap.size w w' := by
 have HK := aM' hK
 have HR := aM' hr
 have HC := aM' hc
 obtain ⟨kl, hkl⟩ := tagLeafNode_ev wd e.f0 he.id he.sa
 have HL := aM' (hkl kl (Nat.le_refl _))
 have HCl := aM' (nodeClimb_eq wd e he)
 have HA := aM' (askLeaf_eq e he ⟨#[]⟩ 0 0 0)
 have HSh := aM' (proofShape_eq wd (e.f1.f1.length : Int) e.f1.f0 e.f1.f1)
 have HU := aM' (show upI wd e = if mayLeafI e.f0 = true then (if shapeN wd (e.f1.f1.length : Int) e.f1.f0 e.f1.f1 = 0 then (if (climbE wd e).2.2.2 = 0 then ((climbE wd e).1, (climbE wd e).2.1, (climbE wd e).2.2.1, (e.f1.f1.length : Int), 0) else (⟨#[]⟩, 0, 0, 0, (climbE wd e).2.2.2)) else (⟨#[]⟩, 0, 0, 0, shapeN wd (e.f1.f1.length : Int) e.f1.f0 e.f1.f1)) else (⟨#[]⟩, 0, 0, 0, 130) from rfl)
 have hll : (e.f1.f1.length : Int) ≤ 9223372036854775807 := by have := he.ls; omega
 clear hK hr hc he hkl
 generalize upI wd e = up at HU ⊢
 generalize hcl : climbE wd e = cl at HCl HU
 obtain ⟨c1, c2, c3, c4⟩ := cl
 clear hcl
 generalize hln : leafNodeI wd e.f0 = ln at HL HCl
 clear hln
 generalize hsh : shapeN wd (e.f1.f1.length : Int) e.f1.f0 e.f1.f1 = sh at HSh HU
 clear hsh
 dsimp only at HU
 go_enter Tryd.func82, Tryd.ntmps82
 go_wp2_with fail
 have HUS := aM' (show UpS w ((w.alloc (.cells (entU e A c) 70)).alloc (.cells (rootA ⟨⟨#[]⟩, ⟨0, 0⟩, 0⟩) 41)) e A c ⟨⟨#[]⟩, ⟨0, 0⟩, 0⟩ from
  ⟨below_alloc (below_alloc (Below.refl _ _) _) _, blk_alloc (blk_new w _) _, by have := blk_new (w.alloc (.cells (entU e A c) 70)) (.cells (rootA ⟨⟨#[]⟩, ⟨0, 0⟩, 0⟩) 41); rwa [World.size_alloc] at this⟩)
 have hU2 := HUS.out.below (below_alloc (Below.refl _ _) (.cells #[.string ⟨#[]⟩, .int .u64 0, .int .u64 0, .int .i64 0, .bool e.f0.f0, .string e.f0.f1, .string e.f0.f2, .int .u64 e.f0.f3.f0, .int .u64 e.f0.f3.f1, .int .u64 e.f1.f0, .slice A e.f1.f1.length c] 146))
 refine (verify_asked_leaf.calls ⟨#[]⟩ 0 0 0 e.f0.f0 e.f0.f1 e.f0.f2 e.f0.f3.f0 e.f0.f3.f1 e.f1.f0 A c e.f1.f1 _ _ (HK.out.below hU2.hB) (Kd.C_below HR.out hU2.hB) HC.out HA.out).mono ?_
 rintro x w1 ⟨rfl, hb⟩
 have hU := hU2.below hb
 clear hU2 hb HUS
 have HUS := aM' hU
 have ce6 : w1.cell? ⟨w.heap.size, 6, none⟩ = some (.slice A e.f1.f1.length c) := blk_cell hU.h0 6
 have ce5 : w1.cell? ⟨w.heap.size, 5, none⟩ = some (.int .u64 e.f1.f0) := blk_cell hU.h0 5
 have cr0 : w1.cell? ⟨w.heap.size + 1, 0, none⟩ = some (.string ⟨#[]⟩) := blk_cell hU.h1 0
 have cr1 : w1.cell? ⟨w.heap.size + 1, 1, none⟩ = some (.int .u64 0) := blk_cell hU.h1 1
 have cr2 : w1.cell? ⟨w.heap.size + 1, 2, none⟩ = some (.int .u64 0) := blk_cell hU.h1 2
 have cr3 : w1.cell? ⟨w.heap.size + 1, 3, none⟩ = some (.int .i64 0) := blk_cell hU.h1 3
 have fr : ∀ i, w1.frozen? ⟨w.heap.size + 1, i, none⟩ = false := fun i => blk_frozen hU.h1 i
 clear hU
 cases hm : mayLeafI e.f0 with
 | false =>
  rw [hm] at HU
  rw [if_neg (by decide)]
  have HUU := aM' (HU.out.trans (if_neg (by decide)))
  clear HU hm
  go_wp2
  rw [HUU.out]
  exact bodyPost_ret (root_results rfl _ _ _ ⟨⟨#[]⟩, ⟨0, 0⟩, 0⟩ _ rfl rfl (HUS.out.put ⟨⟨#[]⟩, ⟨0, 0⟩, 0⟩).h1) rfl ⟨rfl, (HUS.out.put ⟨⟨#[]⟩, ⟨0, 0⟩, 0⟩).hB⟩
 | true =>
  rw [hm] at HU
  rw [if_pos rfl]
  have HUU := aM' (HU.out.trans (if_pos rfl))
  clear HU hm
  go_wp2_with fail
  refine (proof_Shape.calls wd (e.f1.f1.length : Int) e.f1.f0 A c e.f1.f1 _ _ (Kd.C_below HR.out HUS.out.hB) HC.out HSh.out).mono ?_
  rintro x w2 ⟨rfl, hb⟩
  have hU := HUS.out.below hb
  clear HUS hb ce6 ce5 cr0 cr1 cr2 cr3 fr
  have HUS := aM' hU
  have cr0 : w2.cell? ⟨w.heap.size + 1, 0, none⟩ = some (.string ⟨#[]⟩) := blk_cell hU.h1 0
  have cr1 : w2.cell? ⟨w.heap.size + 1, 1, none⟩ = some (.int .u64 0) := blk_cell hU.h1 1
  have cr2 : w2.cell? ⟨w.heap.size + 1, 2, none⟩ = some (.int .u64 0) := blk_cell hU.h1 2
  have cr3 : w2.cell? ⟨w.heap.size + 1, 3, none⟩ = some (.int .i64 0) := blk_cell hU.h1 3
  have fr : ∀ i, w2.frozen? ⟨w.heap.size + 1, i, none⟩ = false := fun i => blk_frozen hU.h1 i
  clear hU
  by_cases hs : sh = 0
  ·
   have HU3 := aM' (HUU.out.trans (if_pos hs))
   subst hs
   clear HUU
   go_wp2_with fail
   refine region_inv (fun l a W => ∃ γ : Nat, a = ({ tmps := #[.int .i64 wd, .agg (entU e A c), undef, .pointer (some ⟨w.heap.size, 0, none⟩), .pointer (some ⟨w.heap.size + 1, 0, none⟩), .int .i64 0, .pointer (some ⟨w.heap.size + 1 + 1, 0, none⟩), .int .i64 0, .int .i64 0, sel (l 15) (.pointer (some ⟨γ, 0, none⟩)) (undef), sel (l 17) (.int .i64 c4) (undef), .agg #[.bool e.f0.f0, .string e.f0.f1, .string e.f0.f2, .int .u64 e.f0.f3.f0, .int .u64 e.f0.f3.f1, .int .u64 e.f1.f0, .slice A e.f1.f1.length c], .agg #[.string ⟨#[]⟩, .int .u64 0, .int .u64 0, .int .i64 0, .bool e.f0.f0, .string e.f0.f1, .string e.f0.f2, .int .u64 e.f0.f3.f0, .int .u64 e.f0.f3.f1, .int .u64 e.f1.f0, .slice A e.f1.f1.length c], .agg #[.string ⟨#[]⟩, .int .u64 0, .int .u64 0, .int .i64 0, .bool e.f0.f0, .string e.f0.f1, .string e.f0.f2, .int .u64 e.f0.f3.f0, .int .u64 e.f0.f3.f1, .int .u64 e.f1.f0, .slice A e.f1.f1.length c], .int .i64 0, .int .i64 0, .bool false, undef, undef, .int .i64 wd, .pointer (some ⟨w.heap.size, 5, none⟩), .pointer (some ⟨w.heap.size, 6, none⟩), .slice A e.f1.f1.length c, .int .i64 (e.f1.f1.length : Int), .pointer (some ⟨w.heap.size, 5, none⟩), .agg #[.int .u64 e.f1.f0, .slice A e.f1.f1.length c], .int .i64 0, .int .i64 0, .bool false, undef, undef, sel (l 12) (.tuple #[.agg #[.string c1, .int .u64 c2, .int .u64 c3], .int .i64 c4]) (undef), sel (l 0) (.int .i64 wd) (undef), sel (l 1) (.int .i64 wd) (undef), sel (l 2) (.pointer (some ⟨w.heap.size, 0, none⟩)) (undef), sel (l 3) (.agg #[.bool e.f0.f0, .string e.f0.f1, .string e.f0.f2, .int .u64 e.f0.f3.f0, .int .u64 e.f0.f3.f1]) (undef), sel (l 4) (.agg #[.string ln.f0, .int .u64 ln.f1.f0, .int .u64 ln.f1.f1]) (undef), sel (l 5) (.pointer (some ⟨w.heap.size, 5, none⟩)) (undef), sel (l 6) (.pointer (some ⟨w.heap.size, 5, none⟩)) (undef), sel (l 7) (.int .u64 e.f1.f0) (undef), sel (l 8) (.pointer (some ⟨w.heap.size, 5, none⟩)) (undef), sel (l 9) (.pointer (some ⟨w.heap.size, 6, none⟩)) (undef), sel (l 10) (.slice A e.f1.f1.length c) (undef), sel (l 11) (.tuple #[.agg #[.string c1, .int .u64 c2, .int .u64 c3], .int .i64 c4]) (undef), sel (l 13) (.agg #[.string c1, .int .u64 c2, .int .u64 c3]) (undef), sel (l 14) (.int .i64 c4) (undef), undef, undef, undef, undef, undef, undef, undef, undef, undef, undef, undef, undef, undef], defers := [] } : Act) ∧ (UpS w W e A c ⟨⟨#[]⟩, ⟨0, 0⟩, 0⟩ ∧ (l 16 = true → l 15 = true) ∧ (l 15 = true → w.heap.size + 1 < γ ∧ W.heap[γ]? = some (.cells (if l 16 = true then #[.string c1, .int .u64 c2, .int .u64 c3] else #[.string ⟨#[]⟩, .int .u64 0, .int .u64 0]) 46 (0, 0))))) 18 rfl rfl (by kernel_rfl) ?h0 ?hend ?hstep
   case h0 => exact ⟨0, rfl, HUS.out.below (below_drew (Below.refl _ _)), (fun h => by cases h), fun h => by cases h⟩
   case hstep =>
    refine rg_cons (rg_cons (rg_cons (rg_cons (rg_cons (rg_cons (rg_cons (rg_cons (rg_cons (rg_cons (rg_cons (rg_cons (rg_cons (rg_cons (rg_cons (rg_cons (rg_cons (rg_cons (rg_nil) ?s0) ?s1) ?s2) ?s3) ?s4) ?s5) ?s6) ?s7) ?s8) ?s9) ?s10) ?s11) ?s12) ?s13) ?s14) ?s15) ?s16) ?s17
    case s0 =>
     refine rg_step rfl ?_
     rintro l a W ⟨γ, rfl, hI⟩ hl hd
     clear hd
     refine rg_val (v := .int .i64 wd) (w' := W) rfl (by go_simp) ?_
     refine ⟨γ, ?_, ?_⟩
     ·
      simp only [Act.put, List.setIfInBounds_toArray, List.set_cons_zero, List.set_cons_succ]; rfl
     ·
      exact hI
    case s1 =>
     refine rg_step rfl ?_
     rintro l a W ⟨γ, rfl, hI⟩ hl hd
     clear hd
     refine rg_val (v := .int .i64 wd) (w' := W) rfl (by go_simp) ?_
     refine ⟨γ, ?_, ?_⟩
     ·
      simp only [Act.put, List.setIfInBounds_toArray, List.set_cons_zero, List.set_cons_succ]; rfl
     ·
      exact hI
    case s2 =>
     refine rg_step rfl ?_
     rintro l a W ⟨γ, rfl, hI⟩ hl hd
     clear hd
     refine rg_val (v := .pointer (some ⟨w.heap.size, 0, none⟩)) (w' := W) rfl (by go_simp) ?_
     refine ⟨γ, ?_, ?_⟩
     ·
      simp only [Act.put, List.setIfInBounds_toArray, List.set_cons_zero, List.set_cons_succ]; rfl
     ·
      exact hI
    case s3 =>
     refine rg_step rfl ?_
     rintro l a W ⟨γ, rfl, hI⟩ hl hd
     have d2 := hd 2 (by decide)
     clear hd
     have x0 := blk_cell (hI.1.h0) 0
     have x1 := blk_cell (hI.1.h0) 1
     have x2 := blk_cell (hI.1.h0) 2
     have x3 := blk_cell (hI.1.h0) 3
     have x4 := blk_cell (hI.1.h0) 4
     simp at x0 x1 x2 x3 x4
     refine rg_val (v := .agg #[.bool e.f0.f0, .string e.f0.f1, .string e.f0.f2, .int .u64 e.f0.f3.f0, .int .u64 e.f0.f3.f1]) (w' := W) rfl (by go_simp) ?_
     refine ⟨γ, ?_, ?_⟩
     ·
      simp only [Act.put, List.setIfInBounds_toArray, List.set_cons_zero, List.set_cons_succ]; rfl
     ·
      exact hI
    case s4 =>
     refine rg_step rfl ?_
     rintro l a W ⟨γ, rfl, hI⟩ hl hd
     have d1 := hd 1 (by decide)
     have d3 := hd 3 (by decide)
     clear hd
     refine rg_call rfl (by go_simp; exact ⟨rfl, rfl⟩) ?_
     refine (tag_LeafNode.calls kl _ _ _ _ _ _ _ _ _ _ (HK.out.below hI.1.hB) HL.out).mono ?_
     rintro x W' ⟨rfl, hb⟩
     refine ⟨_, rfl, γ, ?_, ?_⟩
     ·
      simp only [Act.put, List.setIfInBounds_toArray, List.set_cons_zero, List.set_cons_succ]; rfl
     ·
      exact ⟨hI.1.below hb, hI.2.1, fun h => ⟨(hI.2.2 h).1, blk_below (hI.2.2 h).2 hb⟩⟩
    case s5 =>
     refine rg_step rfl ?_
     rintro l a W ⟨γ, rfl, hI⟩ hl hd
     clear hd
     refine rg_val (v := .pointer (some ⟨w.heap.size, 5, none⟩)) (w' := W) rfl (by go_simp) ?_
     refine ⟨γ, ?_, ?_⟩
     ·
      simp only [Act.put, List.setIfInBounds_toArray, List.set_cons_zero, List.set_cons_succ]; rfl
     ·
      exact hI
    case s6 =>
     refine rg_step rfl ?_
     rintro l a W ⟨γ, rfl, hI⟩ hl hd
     have d5 := hd 5 (by decide)
     clear hd
     refine rg_val (v := .pointer (some ⟨w.heap.size, 5, none⟩)) (w' := W) rfl (by go_simp) ?_
     refine ⟨γ, ?_, ?_⟩
     ·
      simp only [Act.put, List.setIfInBounds_toArray, List.set_cons_zero, List.set_cons_succ]; rfl
     ·
      exact hI
    case s7 =>
     refine rg_step rfl ?_
     rintro l a W ⟨γ, rfl, hI⟩ hl hd
     have d6 := hd 6 (by decide)
     clear hd
     have x5 := blk_cell (hI.1.h0) 5
     simp at x5
     refine rg_val (v := .int .u64 e.f1.f0) (w' := W) rfl (by go_simp) ?_
     refine ⟨γ, ?_, ?_⟩
     ·
      simp only [Act.put, List.setIfInBounds_toArray, List.set_cons_zero, List.set_cons_succ]; rfl
     ·
      exact hI
    case s8 =>
     refine rg_step rfl ?_
     rintro l a W ⟨γ, rfl, hI⟩ hl hd
     clear hd
     refine rg_val (v := .pointer (some ⟨w.heap.size, 5, none⟩)) (w' := W) rfl (by go_simp) ?_
     refine ⟨γ, ?_, ?_⟩
     ·
      simp only [Act.put, List.setIfInBounds_toArray, List.set_cons_zero, List.set_cons_succ]; rfl
     ·
      exact hI
    case s9 =>
     refine rg_step rfl ?_
     rintro l a W ⟨γ, rfl, hI⟩ hl hd
     have d8 := hd 8 (by decide)
     clear hd
     refine rg_val (v := .pointer (some ⟨w.heap.size, 6, none⟩)) (w' := W) rfl (by go_simp) ?_
     refine ⟨γ, ?_, ?_⟩
     ·
      simp only [Act.put, List.setIfInBounds_toArray, List.set_cons_zero, List.set_cons_succ]; rfl
     ·
      exact hI
    case s10 =>
     refine rg_step rfl ?_
     rintro l a W ⟨γ, rfl, hI⟩ hl hd
     have d9 := hd 9 (by decide)
     clear hd
     have x6 := blk_cell (hI.1.h0) 6
     simp at x6
     refine rg_val (v := .slice A e.f1.f1.length c) (w' := W) rfl (by go_simp) ?_
     refine ⟨γ, ?_, ?_⟩
     ·
      simp only [Act.put, List.setIfInBounds_toArray, List.set_cons_zero, List.set_cons_succ]; rfl
     ·
      exact hI
    case s11 =>
     refine rg_step rfl ?_
     rintro l a W ⟨γ, rfl, hI⟩ hl hd
     have d0 := hd 0 (by decide)
     have d4 := hd 4 (by decide)
     have d7 := hd 7 (by decide)
     have d10 := hd 10 (by decide)
     clear hd
     refine rg_call rfl (by go_simp; exact ⟨rfl, rfl⟩) ?_
     refine (node_Climb.calls _ _ _ _ _ A c e.f1.f1 _ _ _ _ _ ((LaidT.one HK.out).below hI.1.hB) (Kd.C_below HR.out hI.1.hB) HC.out HCl.out).mono ?_
     rintro x W' ⟨rfl, hb⟩
     refine ⟨_, rfl, γ, ?_, ?_⟩
     ·
      simp only [Act.put, List.setIfInBounds_toArray, List.set_cons_zero, List.set_cons_succ]; rfl
     ·
      exact ⟨hI.1.below hb, hI.2.1, fun h => ⟨(hI.2.2 h).1, blk_below (hI.2.2 h).2 hb⟩⟩
    case s12 =>
     refine rg_step rfl ?_
     rintro l a W ⟨γ, rfl, hI⟩ hl hd
     have d11 := hd 11 (by decide)
     clear hd
     refine rg_val (v := .tuple #[.agg #[.string c1, .int .u64 c2, .int .u64 c3], .int .i64 c4]) (w' := W) rfl (by go_simp) ?_
     refine ⟨γ, ?_, ?_⟩
     ·
      simp only [Act.put, List.setIfInBounds_toArray, List.set_cons_zero, List.set_cons_succ]; rfl
     ·
      exact hI
    case s13 =>
     refine rg_step rfl ?_
     rintro l a W ⟨γ, rfl, hI⟩ hl hd
     have d12 := hd 12 (by decide)
     clear hd
     refine rg_val (v := .agg #[.string c1, .int .u64 c2, .int .u64 c3]) (w' := W) rfl (by go_simp) ?_
     refine ⟨γ, ?_, ?_⟩
     ·
      simp only [Act.put, List.setIfInBounds_toArray, List.set_cons_zero, List.set_cons_succ]; rfl
     ·
      exact hI
    case s14 =>
     refine rg_step rfl ?_
     rintro l a W ⟨γ, rfl, hI⟩ hl hd
     have d12 := hd 12 (by decide)
     clear hd
     refine rg_val (v := .int .i64 c4) (w' := W) rfl (by go_simp) ?_
     refine ⟨γ, ?_, ?_⟩
     ·
      simp only [Act.put, List.setIfInBounds_toArray, List.set_cons_zero, List.set_cons_succ]; rfl
     ·
      exact hI
    case s15 =>
     refine rg_step rfl ?_
     rintro l a W ⟨γ, rfl, hI⟩ hl hd
     clear hd
     refine rg_val (v := .pointer (some ⟨W.heap.size, 0, none⟩)) (w' := W.alloc (.cells #[.string ⟨#[]⟩, .int .u64 0, .int .u64 0] 46)) rfl (by go_simp) ?_
     refine ⟨W.heap.size, ?_, ?_⟩
     ·
      simp only [Act.put, List.setIfInBounds_toArray, List.set_cons_zero, List.set_cons_succ]; rfl
     ·
      exact ⟨hI.1.below (below_alloc (Below.refl _ _) _), fun _ => rfl, fun _ => ⟨hI.1.lt, by rw [if_neg (show ¬ upd l 15 16 = true from fun h => by have h : l 16 = true := h; rw [hI.2.1 h] at hl; cases hl)]; exact blk_new W _⟩⟩
    case s16 =>
     refine rg_step rfl ?_
     rintro l a W ⟨γ, rfl, hI⟩ hl hd
     have d13 := hd 13 (by decide)
     have d15 := hd 15 (by decide)
     clear hd
     have hg := hI.2.2 d15
     rw [if_neg (by rw [hl]; decide)] at hg
     have y0 := blk_cell hg.2 0
     have y1 := blk_cell hg.2 1
     have y2 := blk_cell hg.2 2
     have yf := fun i => blk_frozen hg.2 i
     simp at y0 y1 y2
     refine rg_skip rfl (by go_simp; rfl) ?_
     refine ⟨γ, ?_, ?_⟩
     ·
      simp only [Act.put, List.setIfInBounds_toArray, List.set_cons_zero, List.set_cons_succ]; rfl
     ·
      exact ⟨hI.1.put3 hg.1 _ _ _, fun _ => d15, fun _ => ⟨hg.1, put3 (z := ⟨⟨#[]⟩, ⟨0, 0⟩⟩) hg.2 ⟨c1, ⟨c2, c3⟩⟩⟩⟩
    case s17 =>
     refine rg_step rfl ?_
     rintro l a W ⟨γ, rfl, hI⟩ hl hd
     have d14 := hd 14 (by decide)
     clear hd
     refine rg_val (v := .int .i64 c4) (w' := W) rfl (by go_simp) ?_
     refine ⟨γ, ?_, ?_⟩
     ·
      simp only [Act.put, List.setIfInBounds_toArray, List.set_cons_zero, List.set_cons_succ]; rfl
     ·
      exact hI
   case hend =>
    rintro l a W ⟨γ, rfl, hI⟩ hall
    have e0 := hall 0 (by decide)
    have e1 := hall 1 (by decide)
    have e2 := hall 2 (by decide)
    have e3 := hall 3 (by decide)
    have e4 := hall 4 (by decide)
    have e5 := hall 5 (by decide)
    have e6 := hall 6 (by decide)
    have e7 := hall 7 (by decide)
    have e8 := hall 8 (by decide)
    have e9 := hall 9 (by decide)
    have e10 := hall 10 (by decide)
    have e11 := hall 11 (by decide)
    have e12 := hall 12 (by decide)
    have e13 := hall 13 (by decide)
    have e14 := hall 14 (by decide)
    have e15 := hall 15 (by decide)
    have e16 := hall 16 (by decide)
    have e17 := hall 17 (by decide)
    clear hall
    have hn := hI.2.2 e15
    rw [if_pos e16] at hn
    simp only [e0, e1, e2, e3, e4, e5, e6, e7, e8, e9, e10, e11, e12, e13, e14, e15, e16, e17, sel_true]
    clear e0 e1 e2 e3 e4 e5 e6 e7 e8 e9 e10 e11 e12 e13 e14 e15 e16 e17
    have hU := hI.1
    have HUS2 := aM' hU
    have z0 : W.cell? ⟨γ, 0, none⟩ = some (.string c1) := blk_cell hn.2 0
    have z1 : W.cell? ⟨γ, 1, none⟩ = some (.int .u64 c2) := blk_cell hn.2 1
    have z2 : W.cell? ⟨γ, 2, none⟩ = some (.int .u64 c3) := blk_cell hn.2 2
    have ce6 : W.cell? ⟨w.heap.size, 6, none⟩ = some (.slice A e.f1.f1.length c) := blk_cell hU.h0 6
    have cr0 : W.cell? ⟨w.heap.size + 1, 0, none⟩ = some (.string ⟨#[]⟩) := blk_cell hU.h1 0
    have cr1 : W.cell? ⟨w.heap.size + 1, 1, none⟩ = some (.int .u64 0) := blk_cell hU.h1 1
    have cr2 : W.cell? ⟨w.heap.size + 1, 2, none⟩ = some (.int .u64 0) := blk_cell hU.h1 2
    have cr3 : W.cell? ⟨w.heap.size + 1, 3, none⟩ = some (.int .i64 0) := blk_cell hU.h1 3
    have fr : ∀ i, W.frozen? ⟨w.heap.size + 1, i, none⟩ = false := fun i => blk_frozen hU.h1 i
    clear hn hI hU HUS
    by_cases h4 : c4 = 0
    ·
     have HU4 := aM' (HU3.out.trans (if_pos h4))
     subst h4
     clear HU3
     go_wp2
     rw [HU4.out]
     exact bodyPost_ret (root_results rfl _ _ _ ⟨c1, ⟨c2, c3⟩, (e.f1.f1.length : Int)⟩ _ rfl rfl (HUS2.out.put ⟨c1, ⟨c2, c3⟩, (e.f1.f1.length : Int)⟩).h1) rfl ⟨rfl, (HUS2.out.put ⟨c1, ⟨c2, c3⟩, (e.f1.f1.length : Int)⟩).hB⟩
    ·
     have HU4 := aM' (HU3.out.trans (if_neg h4))
     have b1 : (c4 != 0) = true := by simp [h4]
     clear HU3 h4
     go_wp2
     rw [HU4.out]
     exact bodyPost_ret (root_results rfl _ _ _ ⟨⟨#[]⟩, ⟨0, 0⟩, 0⟩ _ rfl rfl (HUS2.out.put ⟨⟨#[]⟩, ⟨0, 0⟩, 0⟩).h1) rfl ⟨rfl, (HUS2.out.put ⟨⟨#[]⟩, ⟨0, 0⟩, 0⟩).hB⟩
  ·
   have HU3 := aM' (HUU.out.trans (if_neg hs))
   have b1 : (sh != 0) = true := by simp [hs]
   clear HUU hs
   go_wp2
   rw [HU3.out]
   exact bodyPost_ret (root_results rfl _ _ _ ⟨⟨#[]⟩, ⟨0, 0⟩, 0⟩ _ rfl rfl (HUS.out.put ⟨⟨#[]⟩, ⟨0, 0⟩, 0⟩).h1) rfl ⟨rfl, (HUS.out.put ⟨⟨#[]⟩, ⟨0, 0⟩, 0⟩).hB⟩
def verify_Up.f (a0 : Int) (a1_0 : Bool) (a1_1 a1_2 : ByteArray) (a1_3 a1_4 a1_5 : Int) (l : List SNode) : Option (ByteArray × Int × Int × Int × Int) :=
 if (a1_1.size ≤ 1000000 ∧ a1_2.size ≤ 1000000 ∧ l.length ≤ 9223372036854775807) ∧ ((0 ≤ a1_3 ∧ a1_3 < 18446744073709551616) ∧ (0 ≤ a1_4 ∧ a1_4 < 18446744073709551616) ∧ (0 ≤ a1_5 ∧ a1_5 < 18446744073709551616)) ∧ ∀ x ∈ l, (0 ≤ x.f1.f0 ∧ x.f1.f0 < 18446744073709551616) ∧ (0 ≤ x.f1.f1 ∧ x.f1.f1 < 18446744073709551616) then some (upI a0 ⟨⟨a1_0, a1_1, a1_2, ⟨a1_3, a1_4⟩⟩, ⟨a1_5, l⟩⟩) else none
theorem verify_Up.calls (a0 : Int) (a1_0 : Bool) (a1_1 a1_2 : ByteArray) (a1_3 a1_4 a1_5 : Int) (A : Option Addr) (c : Nat) (l : List SNode) (r1 : ByteArray) (r2 r3 r4 r5 : Int) (w : World) (hK : LaidT w) (hr : Kd.C kNode w A l.length l) (hc : l.length ≤ c) (h : verify_Up.f a0 a1_0 a1_1 a1_2 a1_3 a1_4 a1_5 l = some (r1, r2, r3, r4, r5)) :
  Calls Tryd.prog 82 #[.int .i64 a0, .agg #[.bool a1_0, .string a1_1, .string a1_2, .int .u64 a1_3, .int .u64 a1_4, .int .u64 a1_5, .slice A l.length c]] w fun e w' => e = .returned (.tuple #[.agg #[.string r1, .int .u64 r2, .int .u64 r3, .int .i64 r4], .int .i64 r5]) ∧ Below w.heap.size w w' := by
 unfold verify_Up.f at h
 split at h
 ·
  rename_i hh
  have h2 := Option.some.inj h
  refine (verifyUp.calls a0 ⟨⟨a1_0, a1_1, a1_2, ⟨a1_3, a1_4⟩⟩, ⟨a1_5, l⟩⟩ A c w hK hr hc ⟨hh.1.1, hh.1.2.1, ⟨hh.2.1.1, hh.2.1.2.1⟩, hh.2.1.2.2, fun x hx => ⟨(hh.2.2 x hx).1, (hh.2.2 x hx).2⟩, hh.1.2.2⟩).mono ?_
  rintro e w' ⟨rfl, hb⟩
  rw [h2]
  exact ⟨rfl, hb⟩
 ·
  cases h
end Go.Proofs.YtfcodmdckcihmaaDoor.P
